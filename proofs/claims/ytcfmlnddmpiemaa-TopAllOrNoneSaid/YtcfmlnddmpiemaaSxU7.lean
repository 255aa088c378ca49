import Derived.Test.YtcfmlnddmpiemaaSxEc
import Derived.Test.YtcfmlnddmpiemaaSxU6
set_option linter.unusedVariables false
set_option linter.unusedSimpArgs false
set_option maxRecDepth 10000
namespace Go.Proofs.Ytcfmlnddmpiemaa.Sx
open Go.RowKit Go.Proofs.Ytcfmlnddmpiemaa.Sx.Tb
/-! ### The law TopAllOrNone -/
theorem getD_memI {l : List Int} {i : Nat} (h : i < l.length) : l.getD i 0 ∈ l := by
  rw [List.getD_eq_getElem?_getD, List.getElem?_eq_getElem h]; exact List.getElem_mem h
theorem dropD (l : List Int) (n p : Nat) : (l.drop n).getD p 0 = l.getD (n + p) 0 := by
  rw [List.getD_eq_getElem?_getD, List.getElem?_drop, ← List.getD_eq_getElem?_getD]
abbrev ChR := List Int × List Int
def chAV (x : ChR) : List AV := [.im true 1 x.1.length (.ints .i64 x.1), .im true 1 x.2.length (.ints .u8 x.2)]
def chC (rs : List ChR) : Cont := .recs 2 rs.length (fun i => chAV (rs.getD i ([], [])))
set_option maxHeartbeats 64000000 in
theorem topall_c (rs : List ChR) (ops : Int) (ks : List Bool) (k : K) (h0 : rs.length ≤ 9223372036854775807 ∧ (∀ x ∈ rs, (∀ v ∈ x.1, inR .i64 v) ∧ B8 x.2 ∧ x.1.length ≤ 9223372036854775807 ∧ x.2.length ≤ 9223372036854775807) ∧ inR .i64 ops ∧ ks.length ≤ 9223372036854775807) (hk : k (.v (.bool true)) []) : evFunc tab [] p4 Go.Proofs.Try.f4 [.im true 2 rs.length (chC rs), .v (.int .i64 ops), .im true 1 ks.length (boolsC ks)] [] k := by
  obtain ⟨hrl, hrs, hops, hkl⟩ := h0
  have tk0 : ∀ s : DF, some s.pk = some (s.tick 0).pk := fun s => by rw [show s.tick 0 = s by unfold DF.tick; simp]
  repeat' (first
    | (with_reducible first | exact True.intro | apply And.intro | apply If_true | apply If_false | apply If_not)
    | ((with_reducible apply VC.mk); exact vo)
    | ((with_reducible apply If_dec) <;> intro hc <;> (try (exfalso; omega)))
    | ((with_reducible apply If_any) <;> intro hc)
    | ((with_reducible first | apply PF.mk | apply DrawP.mk); (focus kernel_rfl))
    | ((with_reducible apply Same.mk); (focus rfl); (first | exact trivial | exact rfl))
    | (intro cap hcap)
    | ((fail_if_success (with_reducible apply st)); conv => whnf))
  obtain ⟨z0, hz0⟩ : ∃ z0 : List Int, z0 = List.replicate (Int.toNat 18800) 0 := ⟨_, rfl⟩
  have z0l : z0.length = 18800 := by rw [hz0, List.length_replicate]; rfl
  have z0g : ∀ p, z0.getD p 0 = 0 := fun p => by rw [hz0, List.getD_eq_getElem?_getD, List.getElem?_replicate]; split <;> rfl
  have z08 : B8 z0 := by rw [hz0]; exact B8.replicate _
  rw [← hz0]
  clear hz0
  have ht0 : List.take (Int.toNat 18800) (List.drop 0 z0) = z0 := by rw [List.drop_zero]; exact List.take_of_length_le (by rw [z0l]; decide)
  refine new_at z0 (by omega) ⟨⟨by show 0 + Int.toNat 18800 ≤ z0.length; rw [z0l]; decide, rfl, by rw [z0l]; rfl, ?_, rfl, Nat.one_pos⟩, trivial⟩ (fun h => absurd h (by omega)) (fun _ => ?_)
  · simp only [Cont.low, Cont.ren, Int.toNat_zero, List.drop_zero, List.take_take, Nat.min_self]
    simp [Cont.same, List.take_of_length_le, z0l]
  repeat' (first
    | (with_reducible first | exact True.intro | apply And.intro | apply If_true | apply If_false | apply If_not)
    | ((with_reducible apply VC.mk); exact vo)
    | ((with_reducible apply If_dec) <;> intro hc <;> (try (exfalso; omega)))
    | ((with_reducible apply If_any) <;> intro hc)
    | ((with_reducible first | apply PF.mk | apply DrawP.mk); (focus kernel_rfl))
    | ((with_reducible apply Same.mk); (focus rfl); (first | exact trivial | exact rfl))
    | (intro cap hcap)
    | ((fail_if_success (with_reducible apply st)); conv => whnf))
  refine len_at (DF.mk0 z0) 1 (by show z0.length ≤ _; omega) rfl ⟨rfl, trivial⟩ (fun _ => ?_)
  have z0n : ((DF.mk0 z0).now.length : Int) = 18800 := by show (z0.length : Int) = 18800; omega
  repeat' (first
    | (with_reducible first | exact True.intro | apply And.intro | apply If_true | apply If_false | apply If_not)
    | ((with_reducible apply VC.mk); exact vo)
    | ((with_reducible apply If_dec) <;> intro hc <;> (try (exfalso; omega)))
    | ((with_reducible apply If_any) <;> intro hc)
    | ((with_reducible first | apply PF.mk | apply DrawP.mk); (focus kernel_rfl))
    | ((with_reducible apply Same.mk); (focus rfl); (first | exact trivial | exact rfl))
    | (intro cap hcap)
    | ((fail_if_success (with_reducible apply st)); conv => whnf))
  · refine len_at (DF.mk0 z0) 1 (by show z0.length ≤ _; omega) rfl ⟨rfl, trivial⟩ (fun _ => ?_)
    repeat' (first
    | (with_reducible first | exact True.intro | apply And.intro | apply If_true | apply If_false | apply If_not)
    | ((with_reducible apply VC.mk); exact vo)
    | ((with_reducible apply If_dec) <;> intro hc <;> (try (exfalso; omega)))
    | ((with_reducible apply If_any) <;> intro hc)
    | ((with_reducible first | apply PF.mk | apply DrawP.mk); (focus kernel_rfl))
    | ((with_reducible apply Same.mk); (focus rfl); (first | exact trivial | exact rfl))
    | (intro cap hcap)
    | ((fail_if_success (with_reducible apply st)); conv => whnf))
    exact Fin.bool (decide_eq_true (by rw [z0n]; rfl)) hk
  · refine len_at (DF.mk0 z0) 1 (by show z0.length ≤ _; omega) rfl ⟨rfl, trivial⟩ (fun _ => ?_)
    repeat' (first
    | (with_reducible first | exact True.intro | apply And.intro | apply If_true | apply If_false | apply If_not)
    | ((with_reducible apply VC.mk); exact vo)
    | ((with_reducible apply If_dec) <;> intro hc <;> (try (exfalso; omega)))
    | ((with_reducible apply If_any) <;> intro hc)
    | ((with_reducible first | apply PF.mk | apply DrawP.mk); (focus kernel_rfl))
    | ((with_reducible apply Same.mk); (focus rfl); (first | exact trivial | exact rfl))
    | (intro cap hcap)
    | ((fail_if_success (with_reducible apply st)); conv => whnf))
    exact Fin.bool (decide_eq_true (by rw [z0n]; rfl)) hk
  have hr8 : rs.length ≤ 8 := by omega
  have hE : newE (DF.mk0 z0) 512 12288 = 0 := by
    unfold newE
    rw [if_neg (by decide), if_neg]
    omega
  refine jnew_at (DF.mk0 z0) 512 12288 1 ⟨by show z0.length ≤ _; omega, by simp [inR], by simp [inR]⟩ rfl ⟨rfl, rfl, rfl, trivial⟩ (fun h => absurd hE h) (fun _ => ?_)
  repeat' (first
    | (with_reducible first | exact True.intro | apply And.intro | apply If_true | apply If_false | apply If_not)
    | ((with_reducible apply VC.mk); exact vo)
    | ((with_reducible apply If_dec) <;> intro hc <;> (try (exfalso; omega)))
    | ((with_reducible apply If_any) <;> intro hc)
    | ((with_reducible first | apply PF.mk | apply DrawP.mk); (focus kernel_rfl))
    | ((with_reducible apply Same.mk); (focus rfl); (first | exact trivial | exact rfl))
    | (intro cap hcap)
    | ((fail_if_success (with_reducible apply st)); conv => whnf))
  refine pick_at ops 150 ⟨hops, by decide, by decide⟩ ⟨rfl, rfl, trivial⟩ ?_
  intro sp hsp
  have hsp : 0 ≤ sp ∧ sp < 150 := by rw [hsp]; exact ⟨Int.emod_nonneg _ (by decide), Int.emod_lt_of_pos _ (by decide)⟩
  repeat' (first
    | (with_reducible first | exact True.intro | apply And.intro | apply If_true | apply If_false | apply If_not)
    | ((with_reducible apply VC.mk); exact vo)
    | ((with_reducible apply If_dec) <;> intro hc <;> (try (exfalso; omega)))
    | ((with_reducible apply If_any) <;> intro hc)
    | ((with_reducible first | apply PF.mk | apply DrawP.mk); (focus kernel_rfl))
    | ((with_reducible apply Same.mk); (focus rfl); (first | exact trivial | exact rfl))
    | (intro cap hcap)
    | ((fail_if_success (with_reducible apply st)); conv => whnf))
  refine stop_at (DF.mk0 z0) (1 + sp) 1 ⟨Int.le_refl _, by show (0 : Int) ≤ _; decide⟩ rfl ⟨rfl, rfl, trivial⟩ (fun _ => ?_)
  obtain ⟨s1, hs1⟩ : ∃ s1 : DF, s1 = { DF.mk0 z0 with stop := if 0 < 1 + sp ∧ 1 + sp ≤ 65536 then (DF.mk0 z0).ops + (1 + sp) else 0 } := ⟨_, rfl⟩
  rw [← hs1]
  have hF0 : FlA jA s1 z0 z0 0 := by
    have o := DF.Ok.zero (b := z0) (by omega)
    refine ⟨rfl, rfl, jA_ok, by rw [hs1]; rfl, by rw [hs1]; rfl, by rw [hs1]; rfl, z0l, z08, fun i _ => z0g _, fun p _ => rfl, ?_⟩
    rw [hs1]
    exact ⟨o.safe, o.now, o.its, o.len, o.ops, o.wrote, o.all⟩
  clear hs1
  repeat' (first
    | (with_reducible first | exact True.intro | apply And.intro | apply If_true | apply If_false | apply If_not)
    | ((with_reducible apply VC.mk); exact vo)
    | ((with_reducible apply If_dec) <;> intro hc <;> (try (exfalso; omega)))
    | ((with_reducible apply If_any) <;> intro hc)
    | ((with_reducible first | apply PF.mk | apply DrawP.mk); (focus kernel_rfl))
    | ((with_reducible apply Same.mk); (focus rfl); (first | exact trivial | exact rfl))
    | (intro cap hcap)
    | ((fail_if_success (with_reducible apply st)); conv => whnf))
  refine enorm_at [(512, 12800)] ⟨⟨by decide, by decide⟩, fun x hx => by rw [List.mem_singleton.1 hx]; simp [inR]⟩ ⟨⟨by decide, rfl, rfl, ⟨rfl, rfl, fun j hj => by match j, hj with | 0, _ => rfl⟩, rfl, Nat.two_pos⟩, trivial⟩ ?_
  rintro tc0 ⟨t1, t2, t3⟩
  have hS0 : StA [z0] tc0 0 := by
    refine ⟨fun i hi => ?_, fun i hi p hp => ?_, fun p h1 h2 => (t1 p).2 ⟨(512, 12800), by simp, h1, h2⟩, ⟨t2, memE_pos ((t1 512).2 ⟨(512, 12800), by simp, by decide, by decide⟩)⟩, t3⟩
    · have : i = 0 := by simp at hi; omega
      subst this; exact z0l
    · have : i = 0 := by simp at hi; omega
      subst this; exact absurd (z0g p) hp
  repeat' (first
    | (with_reducible first | exact True.intro | apply And.intro | apply If_true | apply If_false | apply If_not)
    | ((with_reducible apply VC.mk); exact vo)
    | ((with_reducible apply If_dec) <;> intro hc <;> (try (exfalso; omega)))
    | ((with_reducible apply If_any) <;> intro hc)
    | ((with_reducible first | apply PF.mk | apply DrawP.mk); (focus kernel_rfl))
    | ((with_reducible apply Same.mk); (focus rfl); (first | exact trivial | exact rfl))
    | (intro cap hcap)
    | ((fail_if_success (with_reducible apply st)); conv => whnf))
  refine LoopP.mk ⟨Nat × List (List Int) × Nat × List ExR × JR × DF × List Int × Int, fun y => y.1 ≤ rs.length ∧ 0 < y.2.1.length ∧ y.2.1.length ≤ 1 + y.1 ∧ StA y.2.1 y.2.2.2.1 (8 * y.1) ∧ FlA y.2.2.2.2.1 y.2.2.2.2.2.1 y.2.2.2.2.2.2.1 (y.2.1.getD (y.2.1.length - 1) []) y.2.2.2.2.2.2.2 ∧ 0 ≤ y.2.2.2.2.2.2.2 ∧ y.2.2.2.2.2.2.2 ≤ 20000000 * (y.1 : Int), fun y => ([(0, .im true 2 rs.length (chC rs)), (2, .im true 1 ks.length (boolsC ks)), (7, .im true 1 z0.length (.ints .u8 z0)), (8, .p 1 0 1 0), (10, .p 0 0 1 0), (11, .s 2 0 1 (y.2.1).length (y.2.2.1)), (12, .v (.int .i64 (((y.2.1).length - 1 : Nat) : Int))), (13, .im true 1 ((y.2.1).getD ((y.2.1).length - 1) []).length (.ints .u8 ((y.2.1).getD ((y.2.1).length - 1) []))), (14, .im true 2 (y.2.2.2.1).length (exC (y.2.2.2.1))), (15, .v (.int .i64 ((y.1 : Nat) : Int)))], [JR.blk (y.2.2.2.2.1) 1, DF.pk (y.2.2.2.2.2.1), .blk 29 (partsC true (y.2.1)) (y.2.2.1 * 1)]), fun y => rs.length - y.1, (0, [z0], 1, tc0, jA, s1, z0, 0), ⟨Nat.zero_le _, Nat.one_pos, Nat.le_refl _, hS0, hF0, Int.le_refl _, Int.le_refl _⟩, Fit.ren [2, 1, 3] [0] rfl rfl ?_ ?_ ?_, ?_⟩
  · exact ⟨trivial, trivial⟩
  · refine ⟨⟨VC.mk ⟨rfl, rfl⟩, VC.mk ⟨rfl, rfl, rfl, rfl⟩, VC.mk rfl, VC.mk rfl, VC.mk rfl, trivial⟩, VC.mk ⟨rfl, rfl, rfl, rfl⟩, ⟨VC.mk ⟨rfl, rfl⟩, VC.mk ⟨rfl, Nat.le_refl _⟩, fun j hj => ?_⟩, trivial⟩
    match j, hj with
    | 0, _ => exact ⟨⟨VC.mk ⟨by show 0 + Int.toNat 18800 ≤ z0.length; rw [z0l]; decide, rfl, rfl, by show _ = z0.length; rw [z0l]; rfl, Nat.one_pos⟩, VC.mk ⟨rfl, ht0⟩⟩, trivial⟩
  · repeat' (first
    | (with_reducible first | exact True.intro | apply And.intro | apply If_true | apply If_false | apply If_not)
    | ((with_reducible apply VC.mk); exact vo)
    | ((with_reducible apply If_dec) <;> intro hc <;> (try (exfalso; omega)))
    | ((with_reducible apply If_any) <;> intro hc)
    | ((with_reducible first | apply PF.mk | apply DrawP.mk); (focus kernel_rfl))
    | ((with_reducible apply Same.mk); (focus rfl); (first | exact trivial | exact rfl))
    | (intro cap hcap)
    | ((fail_if_success (with_reducible apply st)); conv => whnf))
    all_goals exact VC.mk ⟨rfl, ht0⟩
  intro y hy
  obtain ⟨g1, g2, g3, gS, gF, g4, g5⟩ := hy
  have e : ((y.1 : Nat) : Int).toNat = y.1 := Int.toNat_natCast _
  repeat' (first
    | (with_reducible first | exact True.intro | apply And.intro | apply If_true | apply If_false | apply If_not)
    | ((with_reducible apply VC.mk); exact vo)
    | ((with_reducible apply If_dec) <;> intro hc <;> (try (exfalso; omega)))
    | ((with_reducible apply If_any) <;> intro hc)
    | ((with_reducible first | apply PF.mk | apply DrawP.mk); (focus kernel_rfl))
    | ((with_reducible apply Same.mk); (focus rfl); (first | exact trivial | exact rfl))
    | (intro cap hcap)
    | ((fail_if_success (with_reducible apply st)); conv => whnf))
  rotate_right
  · obtain ⟨zz, hzz⟩ : ∃ zz : List Int, zz = List.replicate 512 0 := ⟨_, rfl⟩
    have hzl : zz.length = 512 := by rw [hzz]; exact List.length_replicate ..
    have okE := gF.sok
    refine crash_at y.2.2.2.2.2.1 ks 1 ⟨okE.safe, by omega, by have := okE.len; omega, okE.its⟩ rfl ⟨rfl, ⟨rfl, rfl, ⟨rfl, rfl, fun _ _ => rfl⟩⟩, trivial⟩ ?_
    intro C hC
    have hend := gF.crash (sts := y.2.1) (sure := y.2.1.length - 1) ⟨Nat.le_refl _, by omega⟩ rfl ks (s' := y.2.2.2.2.2.1) rfl rfl
    rw [← hC] at hend
    obtain ⟨C8, Cl, hend⟩ := hend
    clear hC
    have hE2 : newE (DF.mk0 C) 512 12288 = 0 := by
      have : (DF.mk0 C).now.length = C.length := rfl
      unfold newE
      rw [if_neg (by decide), if_neg]
      omega
    repeat' (first
    | (with_reducible first | exact True.intro | apply And.intro | apply If_true | apply If_false | apply If_not)
    | ((with_reducible apply VC.mk); exact vo)
    | ((with_reducible apply If_dec) <;> intro hc <;> (try (exfalso; omega)))
    | ((with_reducible apply If_any) <;> intro hc)
    | ((with_reducible first | apply PF.mk | apply DrawP.mk); (focus kernel_rfl))
    | ((with_reducible apply Same.mk); (focus rfl); (first | exact trivial | exact rfl))
    | (intro cap hcap)
    | ((fail_if_success (with_reducible apply st)); conv => whnf))
    refine new_at C (by omega) ⟨⟨rfl, rfl, rfl⟩, trivial⟩ (fun h => absurd h (by omega)) (fun _ => ?_)
    repeat' (first
    | (with_reducible first | exact True.intro | apply And.intro | apply If_true | apply If_false | apply If_not)
    | ((with_reducible apply VC.mk); exact vo)
    | ((with_reducible apply If_dec) <;> intro hc <;> (try (exfalso; omega)))
    | ((with_reducible apply If_any) <;> intro hc)
    | ((with_reducible first | apply PF.mk | apply DrawP.mk); (focus kernel_rfl))
    | ((with_reducible apply Same.mk); (focus rfl); (first | exact trivial | exact rfl))
    | (intro cap hcap)
    | ((fail_if_success (with_reducible apply st)); conv => whnf))
    refine jnew_at (DF.mk0 C) 512 12288 3 ⟨by show C.length ≤ _; omega, by simp [inR], by simp [inR]⟩ rfl ⟨rfl, rfl, rfl, trivial⟩ (fun h => absurd hE2 h) (fun _ => ?_)
    repeat' (first
    | (with_reducible first | exact True.intro | apply And.intro | apply If_true | apply If_false | apply If_not)
    | ((with_reducible apply VC.mk); exact vo)
    | ((with_reducible apply If_dec) <;> intro hc <;> (try (exfalso; omega)))
    | ((with_reducible apply If_any) <;> intro hc)
    | ((with_reducible first | apply PF.mk | apply DrawP.mk); (focus kernel_rfl))
    | ((with_reducible apply Same.mk); (focus rfl); (first | exact trivial | exact rfl))
    | (intro cap hcap)
    | ((fail_if_success (with_reducible apply st)); conv => whnf))
    refine replay_at jA (DF.mk0 C) 0 zz 4 3 ⟨jA_ok, DF.Ok.zero (by omega), by decide, C8, hzz⟩ rfl rfl rfl ⟨rfl, trivial⟩ ?_
    intro x hx
    obtain ⟨n1, n2, n3⟩ := hend zz hzz
    have okR := (replay_ok (z := zz) (DF.Ok.zero (b := C) (by omega)) C8 jA_ok hzl).1
    rw [← hx] at okR n1 n2 n3
    clear hx hend
    repeat' (first
    | (with_reducible first | exact True.intro | apply And.intro | apply If_true | apply If_false | apply If_not)
    | ((with_reducible apply VC.mk); exact vo)
    | ((with_reducible apply If_dec) <;> intro hc <;> (try (exfalso; omega)))
    | ((with_reducible apply If_any) <;> intro hc)
    | ((with_reducible first | apply PF.mk | apply DrawP.mk); (focus kernel_rfl))
    | ((with_reducible apply Same.mk); (focus rfl); (first | exact trivial | exact rfl))
    | (intro cap hcap)
    | ((fail_if_success (with_reducible apply st)); conv => whnf))
    refine bytes_at x.2.2.2 3 (by have := okR.now; omega) rfl ⟨rfl, trivial⟩ ?_
    intro now hnow
    have hnow : now = x.2.2.2.now := hnow
    rw [← hnow] at n2 n3
    clear hnow
    have hgS := gS
    have htl := hgS.tl
    have hmem : ∀ p : Nat, now.getD p 0 ≠ 0 → memE y.2.2.2.1 (p : Int) := fun p hp => by
      by_cases hj : inA p
      · have hj : 512 ≤ p ∧ p < 12800 := hj
        exact hgS.jr _ (by omega) (by omega)
      · obtain ⟨i, hi1, hi2, hi3⟩ := n3
        exact hgS.tch i hi2 p (by rw [← hi3 p hj]; exact hp)
    repeat' (first
    | (with_reducible first | exact True.intro | apply And.intro | apply If_true | apply If_false | apply If_not)
    | ((with_reducible apply VC.mk); exact vo)
    | ((with_reducible apply If_dec) <;> intro hc <;> (try (exfalso; omega)))
    | ((with_reducible apply If_any) <;> intro hc)
    | ((with_reducible first | apply PF.mk | apply DrawP.mk); (focus kernel_rfl))
    | ((with_reducible apply Same.mk); (focus rfl); (first | exact trivial | exact rfl))
    | (intro cap hcap)
    | ((fail_if_success (with_reducible apply st)); conv => whnf))
    refine LoopP.mk ⟨Nat, fun a => a ≤ now.length, fun a => ([(7, .im true 1 z0.length (.ints .u8 z0)), (11, .s 0 0 1 y.2.1.length y.2.2.1), (12, .v (.int .i64 ((y.2.1.length - 1 : Nat) : Int))), (14, .im true 2 y.2.2.2.1.length (exC y.2.2.2.1)), (25, .im true 1 now.length (.ints .u8 now)), (26, .v (.int .i64 ((a : Nat) : Int)))], [.blk 29 (partsC true y.2.1) (y.2.2.1 * 1)]), fun a => now.length - a, 0, Nat.zero_le _, Fit.ren [2] [] rfl rfl trivial ?_ ?_, ?_⟩
    · repeat' (first
    | (with_reducible first | exact True.intro | apply And.intro | apply If_true | apply If_false | apply If_not)
    | ((with_reducible apply VC.mk); exact vo)
    | ((with_reducible apply If_dec) <;> intro hc <;> (try (exfalso; omega)))
    | ((with_reducible apply If_any) <;> intro hc)
    | ((with_reducible first | apply PF.mk | apply DrawP.mk); (focus kernel_rfl))
    | ((with_reducible apply Same.mk); (focus rfl); (first | exact trivial | exact rfl))
    | (intro cap hcap)
    | ((fail_if_success (with_reducible apply st)); conv => whnf))
    · repeat' (first
    | (with_reducible first | exact True.intro | apply And.intro | apply If_true | apply If_false | apply If_not)
    | ((with_reducible apply VC.mk); exact vo)
    | ((with_reducible apply If_dec) <;> intro hc <;> (try (exfalso; omega)))
    | ((with_reducible apply If_any) <;> intro hc)
    | ((with_reducible first | apply PF.mk | apply DrawP.mk); (focus kernel_rfl))
    | ((with_reducible apply Same.mk); (focus rfl); (first | exact trivial | exact rfl))
    | (intro cap hcap)
    | ((fail_if_success (with_reducible apply st)); conv => whnf))
      all_goals exact VC.mk ⟨rfl, rfl, rfl, by omega, rfl⟩
    intro a hu
    have eu : ((a : Nat) : Int).toNat = a := Int.toNat_natCast a
    repeat' (first
    | (with_reducible first | exact True.intro | apply And.intro | apply If_true | apply If_false | apply If_not)
    | ((with_reducible apply VC.mk); exact vo)
    | ((with_reducible apply If_dec) <;> intro hc <;> (try (exfalso; omega)))
    | ((with_reducible apply If_any) <;> intro hc)
    | ((with_reducible first | apply PF.mk | apply DrawP.mk); (focus kernel_rfl))
    | ((with_reducible apply Same.mk); (focus rfl); (first | exact trivial | exact rfl))
    | (intro cap hcap)
    | ((fail_if_success (with_reducible apply st)); conv => whnf))
    · have hb1 := hmem a (by rw [eu] at hc; rw [z0g] at hc; exact hc)
      refine ehas_at y.2.2.2.1 ((a : Nat) : Int) (by omega) ⟨⟨rfl, rfl, ⟨rfl, rfl, fun _ _ => rfl⟩⟩, rfl, trivial⟩ ?_
      intro b hb
      obtain rfl : b = true := hb.2 hb1
      repeat' (first
    | (with_reducible first | exact True.intro | apply And.intro | apply If_true | apply If_false | apply If_not)
    | ((with_reducible apply VC.mk); exact vo)
    | ((with_reducible apply If_dec) <;> intro hc <;> (try (exfalso; omega)))
    | ((with_reducible apply If_any) <;> intro hc)
    | ((with_reducible first | apply PF.mk | apply DrawP.mk); (focus kernel_rfl))
    | ((with_reducible apply Same.mk); (focus rfl); (first | exact trivial | exact rfl))
    | (intro cap hcap)
    | ((fail_if_success (with_reducible apply st)); conv => whnf))
      refine Round.mk ⟨a + 1, by show a + 1 ≤ _; omega, by show now.length - (a + 1) < now.length - a; omega, Fit.ren [0] [] rfl rfl trivial ?_ ?_⟩
      · repeat' (first
    | (with_reducible first | exact True.intro | apply And.intro | apply If_true | apply If_false | apply If_not)
    | ((with_reducible apply VC.mk); exact vo)
    | ((with_reducible apply If_dec) <;> intro hc <;> (try (exfalso; omega)))
    | ((with_reducible apply If_any) <;> intro hc)
    | ((with_reducible first | apply PF.mk | apply DrawP.mk); (focus kernel_rfl))
    | ((with_reducible apply Same.mk); (focus rfl); (first | exact trivial | exact rfl))
    | (intro cap hcap)
    | ((fail_if_success (with_reducible apply st)); conv => whnf))
      · repeat' (first
    | (with_reducible first | exact True.intro | apply And.intro | apply If_true | apply If_false | apply If_not)
    | ((with_reducible apply VC.mk); exact vo)
    | ((with_reducible apply If_dec) <;> intro hc <;> (try (exfalso; omega)))
    | ((with_reducible apply If_any) <;> intro hc)
    | ((with_reducible first | apply PF.mk | apply DrawP.mk); (focus kernel_rfl))
    | ((with_reducible apply Same.mk); (focus rfl); (first | exact trivial | exact rfl))
    | (intro cap hcap)
    | ((fail_if_success (with_reducible apply st)); conv => whnf))
    · refine Round.mk ⟨a + 1, by show a + 1 ≤ _; omega, by show now.length - (a + 1) < now.length - a; omega, Fit.ren [0] [] rfl rfl trivial ?_ ?_⟩
      · repeat' (first
    | (with_reducible first | exact True.intro | apply And.intro | apply If_true | apply If_false | apply If_not)
    | ((with_reducible apply VC.mk); exact vo)
    | ((with_reducible apply If_dec) <;> intro hc <;> (try (exfalso; omega)))
    | ((with_reducible apply If_any) <;> intro hc)
    | ((with_reducible first | apply PF.mk | apply DrawP.mk); (focus kernel_rfl))
    | ((with_reducible apply Same.mk); (focus rfl); (first | exact trivial | exact rfl))
    | (intro cap hcap)
    | ((fail_if_success (with_reducible apply st)); conv => whnf))
      · repeat' (first
    | (with_reducible first | exact True.intro | apply And.intro | apply If_true | apply If_false | apply If_not)
    | ((with_reducible apply VC.mk); exact vo)
    | ((with_reducible apply If_dec) <;> intro hc <;> (try (exfalso; omega)))
    | ((with_reducible apply If_any) <;> intro hc)
    | ((with_reducible first | apply PF.mk | apply DrawP.mk); (focus kernel_rfl))
    | ((with_reducible apply Same.mk); (focus rfl); (first | exact trivial | exact rfl))
    | (intro cap hcap)
    | ((fail_if_success (with_reducible apply st)); conv => whnf))
    refine LoopP.mk ⟨Nat, fun v => y.2.1.length - 1 ≤ v ∧ v ≤ y.2.1.length ∧ ∀ i, y.2.1.length - 1 ≤ i → i < v → (y.2.1.getD i []).drop 12800 ≠ now.drop 12800, fun v => ([(11, .s 0 0 1 y.2.1.length y.2.2.1), (25, .im true 1 now.length (.ints .u8 now)), (27, .v (.int .i64 ((v : Nat) : Int)))], [.blk 29 (partsC true y.2.1) (y.2.2.1 * 1)]), fun v => y.2.1.length - v, y.2.1.length - 1, ⟨Nat.le_refl _, by omega, fun i h1 h2 => by omega⟩, Fit.ren [0] [] rfl rfl trivial ?_ ?_, ?_⟩
    · repeat' (first
    | (with_reducible first | exact True.intro | apply And.intro | apply If_true | apply If_false | apply If_not)
    | ((with_reducible apply VC.mk); exact vo)
    | ((with_reducible apply If_dec) <;> intro hc <;> (try (exfalso; omega)))
    | ((with_reducible apply If_any) <;> intro hc)
    | ((with_reducible first | apply PF.mk | apply DrawP.mk); (focus kernel_rfl))
    | ((with_reducible apply Same.mk); (focus rfl); (first | exact trivial | exact rfl))
    | (intro cap hcap)
    | ((fail_if_success (with_reducible apply st)); conv => whnf))
    · repeat' (first
    | (with_reducible first | exact True.intro | apply And.intro | apply If_true | apply If_false | apply If_not)
    | ((with_reducible apply VC.mk); exact vo)
    | ((with_reducible apply If_dec) <;> intro hc <;> (try (exfalso; omega)))
    | ((with_reducible apply If_any) <;> intro hc)
    | ((with_reducible first | apply PF.mk | apply DrawP.mk); (focus kernel_rfl))
    | ((with_reducible apply Same.mk); (focus rfl); (first | exact trivial | exact rfl))
    | (intro cap hcap)
    | ((fail_if_success (with_reducible apply st)); conv => whnf))
    intro v hv
    obtain ⟨w1, w2, w3⟩ := hv
    have ev : ((v : Nat) : Int).toNat = v := Int.toNat_natCast v
    have hsl : v < y.2.1.length → (y.2.1.getD (0 + ((v : Nat) : Int).toNat) []).length = 18800 := fun h => by rw [ev, Nat.zero_add]; exact hgS.len v h
    repeat' (first
    | (with_reducible first | exact True.intro | apply And.intro | apply If_true | apply If_false | apply If_not)
    | ((with_reducible apply VC.mk); exact vo)
    | ((with_reducible apply If_dec) <;> intro hc <;> (try (exfalso; omega)))
    | ((with_reducible apply If_any) <;> intro hc)
    | ((with_reducible first | apply PF.mk | apply DrawP.mk); (focus kernel_rfl))
    | ((with_reducible apply Same.mk); (focus rfl); (first | exact trivial | exact rfl))
    | (intro cap hcap)
    | ((fail_if_success (with_reducible apply st)); conv => whnf))
    · exact Fin.bool rfl hk
    · have tl1 : List.take (now.length - Int.toNat 12800) (List.drop (Int.toNat 12800) now) = now.drop 12800 := List.take_of_length_le (by rw [List.length_drop]; exact Nat.le_refl _)
      have tl2 : List.take ((y.2.1.getD (0 + ((v : Nat) : Int).toNat) []).length - Int.toNat 12800) (List.drop (Int.toNat 12800) (y.2.1.getD (0 + ((v : Nat) : Int).toNat) [])) = (y.2.1.getD v []).drop 12800 := by
        rw [ev, Nat.zero_add]; exact List.take_of_length_le (by rw [List.length_drop]; exact Nat.le_refl _)
      refine Round.mk ⟨v + 1, ⟨by omega, by show v + 1 ≤ _; omega, fun i h1 h2 => ?_⟩, by show y.2.1.length - (v + 1) < y.2.1.length - v; omega, Fit.ren [0] [] rfl rfl trivial ?_ ?_⟩
      · by_cases hi : i < v
        · exact w3 i h1 hi
        · have hiv : i = v := by omega
          intro he
          rw [hiv] at he
          exact hc (congrArg strOf (tl1.trans (he.symm.trans tl2.symm)))
      · repeat' (first
    | (with_reducible first | exact True.intro | apply And.intro | apply If_true | apply If_false | apply If_not)
    | ((with_reducible apply VC.mk); exact vo)
    | ((with_reducible apply If_dec) <;> intro hc <;> (try (exfalso; omega)))
    | ((with_reducible apply If_any) <;> intro hc)
    | ((with_reducible first | apply PF.mk | apply DrawP.mk); (focus kernel_rfl))
    | ((with_reducible apply Same.mk); (focus rfl); (first | exact trivial | exact rfl))
    | (intro cap hcap)
    | ((fail_if_success (with_reducible apply st)); conv => whnf))
      · repeat' (first
    | (with_reducible first | exact True.intro | apply And.intro | apply If_true | apply If_false | apply If_not)
    | ((with_reducible apply VC.mk); exact vo)
    | ((with_reducible apply If_dec) <;> intro hc <;> (try (exfalso; omega)))
    | ((with_reducible apply If_any) <;> intro hc)
    | ((with_reducible first | apply PF.mk | apply DrawP.mk); (focus kernel_rfl))
    | ((with_reducible apply Same.mk); (focus rfl); (first | exact trivial | exact rfl))
    | (intro cap hcap)
    | ((fail_if_success (with_reducible apply st)); conv => whnf))
    exfalso
    obtain ⟨i, i1, i2, i3⟩ := n3
    refine w3 i i1 (by omega) (ext_getD (by rw [List.length_drop, List.length_drop, hgS.len i i2, n2]) (fun p hp => ?_))
    rw [dropD, dropD]
    exact (i3 _ (fun h => by have h : 512 ≤ 12800 + p ∧ 12800 + p < 12800 := h; omega)).symm
  · exact Fin.bool rfl hk
  · exact Fin.bool rfl hk
  have hlt : y.1 < rs.length := by omega
  have hrm : rs.getD ((y.1 : Nat) : Int).toNat ([], []) ∈ rs := by
    rw [e, show rs.getD y.1 ([], []) = rs[y.1] by simp [List.getD_eq_getElem?_getD, hlt]]; exact List.getElem_mem hlt
  obtain ⟨v1, v2, -, -⟩ := hrs _ hrm
  have a8 : (rs.getD ((y.1 : Nat) : Int).toNat ([], [])).1.length ≤ 8 := by omega
  have b6 : (rs.getD ((y.1 : Nat) : Int).toNat ([], [])).2.length ≤ 600 := by omega
  have mlen := gS.len (y.2.1.length - 1) (by omega)
  have mtch := gS.tch (y.2.1.length - 1) (by omega)
  refine begin_at y.2.2.2.2.1 y.2.2.2.2.2.1 0 1 rfl rfl rfl ⟨rfl, trivial⟩ ?_
  repeat' (first
    | (with_reducible first | exact True.intro | apply And.intro | apply If_true | apply If_false | apply If_not)
    | ((with_reducible apply VC.mk); exact vo)
    | ((with_reducible apply If_dec) <;> intro hc <;> (try (exfalso; omega)))
    | ((with_reducible apply If_any) <;> intro hc)
    | ((with_reducible first | apply PF.mk | apply DrawP.mk); (focus kernel_rfl))
    | ((with_reducible apply Same.mk); (focus rfl); (first | exact trivial | exact rfl))
    | (intro cap hcap)
    | ((fail_if_success (with_reducible apply st)); conv => whnf))
  · exact VC.mk ⟨⟨rfl, rfl, rfl, rfl⟩, trivial, by omega, Nat.one_pos, Nat.one_pos⟩
  refine LoopP.mk ⟨Nat × Nat × TR × List Int × Nat × List ExR, fun u => u.1 ≤ (rs.getD ((y.1 : Nat) : Int).toNat ([], [])).1.length ∧ PutA y.2.2.2.2.1 y.2.2.2.2.2.2.1 u.1 u.2.1 u.2.2.1 u.2.2.2.1 ∧ (∀ p : Nat, u.2.2.2.1.getD p 0 ≠ 0 → memE u.2.2.2.2.2 (p : Int)) ∧ (∀ z, memE y.2.2.2.1 z → memE u.2.2.2.2.2 z) ∧ u.2.2.2.2.2.length ≤ y.2.2.2.1.length + u.1 ∧ ∀ x ∈ u.2.2.2.2.2, inR .i64 x.1 ∧ inR .i64 x.2, fun u => ([(0, .im true 2 rs.length (chC rs)), (2, .im true 1 ks.length (boolsC ks)), (7, .im true 1 z0.length (.ints .u8 z0)), (8, .p 4 0 1 0), (10, .p 3 0 1 0), (11, .s 5 0 1 y.2.1.length y.2.2.1), (12, .v (.int .i64 ((y.2.1.length - 1 : Nat) : Int))), (13, .im true 1 (y.2.1.getD (y.2.1.length - 1) []).length (.ints .u8 (y.2.1.getD (y.2.1.length - 1) []))), (14, .im true 2 (u.2.2.2.2.2).length (exC (u.2.2.2.2.2))), (15, .v (.int .i64 ((y.1 : Nat) : Int))), (16, .p 0 0 1 0), (17, .v (.int .i64 0)), (18, .s 6 0 1 (u.2.2.2.1).length (u.2.2.2.2.1)), (19, .v (.int .i64 ((u.1 : Nat) : Int)))], tpre (u.2.2.1) y.2.2.2.2.1 (y.2.2.2.2.2.1.tick (u.2.1)) ++ [.blk 29 (partsC true y.2.1) (y.2.2.1 * 1), .blk 5 (.ints .u8 (u.2.2.2.1)) (u.2.2.2.2.1 * 1)]), fun u => (rs.getD ((y.1 : Nat) : Int).toNat ([], [])).1.length - u.1, (0, 0, TR.zero, y.2.1.getD (y.2.1.length - 1) [], cap, y.2.2.2.1), ⟨Nat.zero_le _, PutA.zero gF mlen, mtch, fun z h => h, Nat.le_refl _, gS.tr⟩, Fit.ren [3, 4, 5, 0, 1, 2, 7] [] rfl rfl trivial (T5.leG (cs := [.blk 29 (partsC true y.2.1) (y.2.2.1 * 1), .blk 5 (.ints .u8 (y.2.1.getD (y.2.1.length - 1) [])) (cap * 1)]) rfl rfl rfl rfl rfl rfl rfl rfl (by exact tk0 _) ⟨rfl, rfl, rfl, rfl, rfl⟩ ?_) ?_, ?_⟩
  · repeat' (first
    | (with_reducible first | exact True.intro | apply And.intro | apply If_true | apply If_false | apply If_not)
    | ((with_reducible apply VC.mk); exact vo)
    | ((with_reducible apply If_dec) <;> intro hc <;> (try (exfalso; omega)))
    | ((with_reducible apply If_any) <;> intro hc)
    | ((with_reducible first | apply PF.mk | apply DrawP.mk); (focus kernel_rfl))
    | ((with_reducible apply Same.mk); (focus rfl); (first | exact trivial | exact rfl))
    | (intro cap hcap)
    | ((fail_if_success (with_reducible apply st)); conv => whnf))
    all_goals trace_state
  · repeat' (first
    | (with_reducible first | exact True.intro | apply And.intro | apply If_true | apply If_false | apply If_not)
    | ((with_reducible apply VC.mk); exact vo)
    | ((with_reducible apply If_dec) <;> intro hc <;> (try (exfalso; omega)))
    | ((with_reducible apply If_any) <;> intro hc)
    | ((with_reducible first | apply PF.mk | apply DrawP.mk); (focus kernel_rfl))
    | ((with_reducible apply Same.mk); (focus rfl); (first | exact trivial | exact rfl))
    | (intro cap hcap)
    | ((fail_if_success (with_reducible apply st)); conv => whnf))
    all_goals trace_state
  intro u hu
  obtain ⟨u1, uP, u3, u4, u5, u6⟩ := hu
  have eu : ((u.1 : Nat) : Int).toNat = u.1 := Int.toNat_natCast _
  repeat' (first
    | (with_reducible first | exact True.intro | apply And.intro | apply If_true | apply If_false | apply If_not)
    | ((with_reducible apply VC.mk); exact vo)
    | ((with_reducible apply If_dec) <;> intro hc <;> (try (exfalso; omega)))
    | ((with_reducible apply If_any) <;> intro hc)
    | ((with_reducible first | apply PF.mk | apply DrawP.mk); (focus kernel_rfl))
    | ((with_reducible apply Same.mk); (focus rfl); (first | exact trivial | exact rfl))
    | (intro cap hcap)
    | ((fail_if_success (with_reducible apply st)); conv => whnf))
  rotate_right
  · have hul : u.1 ≤ 8 := by omega
    obtain ⟨zz, hzz⟩ : ∃ zz : List Int, zz = List.replicate 512 0 := ⟨_, rfl⟩
    have okS := gF.sok.tick u.2.1
    have hq := uP.ops
    have hcnt := uP.inn.count
    refine tcommit_at u.2.2.1 y.2.2.2.2.1 (y.2.2.2.2.2.1.tick u.2.1) (y.2.2.2.2.2.2.2 + u.2.1) zz 0 1 2 3 4 ⟨uP.ok, ⟨by omega, fun q hq => ⟨(uP.inn.keys q hq).1, by have := (uP.inn.keys q hq).2.1; omega, (uP.inn.keys q hq).2.2.2⟩⟩, by rw [uP.fresh]; show (0 : Int) ≤ _; decide, gF.jok, okS, by omega, hzz⟩ rfl rfl rfl rfl rfl rfl ⟨rfl, trivial⟩ ?_
    rintro ⟨e3, t3, j3, s3⟩ hr
    obtain ⟨c1, c2, c3, c4⟩ := uP.commit gF rfl hzz hr
    clear hr
    dsimp only at c1 c2 c3 c4 ⊢
    repeat' (first
    | (with_reducible first | exact True.intro | apply And.intro | apply If_true | apply If_false | apply If_not)
    | ((with_reducible apply VC.mk); exact vo)
    | ((with_reducible apply If_dec) <;> intro hc <;> (try (exfalso; omega)))
    | ((with_reducible apply If_any) <;> intro hc)
    | ((with_reducible first | apply PF.mk | apply DrawP.mk); (focus kernel_rfl))
    | ((with_reducible apply Same.mk); (focus rfl); (first | exact trivial | exact rfl))
    | (intro cap hcap)
    | ((fail_if_success (with_reducible apply st)); conv => whnf))
    · obtain ⟨sts2, hs2⟩ : ∃ s2 : List (List Int), s2 = y.2.1 ++ [u.2.2.2.1] := ⟨_, rfl⟩
      have hl2 : sts2.length = y.2.1.length + 1 := by rw [hs2, List.length_append]; rfl
      have hnl := uP.nl
      have hS2 : StA sts2 u.2.2.2.2.2 (8 * y.1 + 8) := by
        have h := (gS.more (u' := 8 * y.1 + 8) u4 (by have := gS.tl; omega) u6).snoc hnl u3
        rw [← hs2] at h; exact h
      obtain ⟨zz, hzz⟩ : ∃ zz : List Int, zz = List.replicate 512 0 := ⟨_, rfl⟩
      have hzl : zz.length = 512 := by rw [hzz]; exact List.length_replicate ..
      have okE := c2
      refine crash_at s3 ks 4 ⟨okE.safe, by omega, by have := okE.len; omega, okE.its⟩ rfl ⟨rfl, ⟨rfl, rfl, ⟨rfl, rfl, fun _ _ => rfl⟩⟩, trivial⟩ ?_
      intro C hC
      have hend := c4 y.2.1 (y.2.1.length - 1) ks (by omega) rfl
      rw [← hC, ← hs2] at hend
      obtain ⟨C8, Cl, hend⟩ := hend
      clear hC
      have hE2 : newE (DF.mk0 C) 512 12288 = 0 := by
        have : (DF.mk0 C).now.length = C.length := rfl
        unfold newE
        rw [if_neg (by decide), if_neg]
        omega
      repeat' (first
    | (with_reducible first | exact True.intro | apply And.intro | apply If_true | apply If_false | apply If_not)
    | ((with_reducible apply VC.mk); exact vo)
    | ((with_reducible apply If_dec) <;> intro hc <;> (try (exfalso; omega)))
    | ((with_reducible apply If_any) <;> intro hc)
    | ((with_reducible first | apply PF.mk | apply DrawP.mk); (focus kernel_rfl))
    | ((with_reducible apply Same.mk); (focus rfl); (first | exact trivial | exact rfl))
    | (intro cap hcap)
    | ((fail_if_success (with_reducible apply st)); conv => whnf))
      refine new_at C (by omega) ⟨⟨rfl, rfl, rfl⟩, trivial⟩ (fun h => absurd h (by omega)) (fun _ => ?_)
      repeat' (first
    | (with_reducible first | exact True.intro | apply And.intro | apply If_true | apply If_false | apply If_not)
    | ((with_reducible apply VC.mk); exact vo)
    | ((with_reducible apply If_dec) <;> intro hc <;> (try (exfalso; omega)))
    | ((with_reducible apply If_any) <;> intro hc)
    | ((with_reducible first | apply PF.mk | apply DrawP.mk); (focus kernel_rfl))
    | ((with_reducible apply Same.mk); (focus rfl); (first | exact trivial | exact rfl))
    | (intro cap hcap)
    | ((fail_if_success (with_reducible apply st)); conv => whnf))
      refine jnew_at (DF.mk0 C) 512 12288 9 ⟨by show C.length ≤ _; omega, by simp [inR], by simp [inR]⟩ rfl ⟨rfl, rfl, rfl, trivial⟩ (fun h => absurd hE2 h) (fun _ => ?_)
      repeat' (first
    | (with_reducible first | exact True.intro | apply And.intro | apply If_true | apply If_false | apply If_not)
    | ((with_reducible apply VC.mk); exact vo)
    | ((with_reducible apply If_dec) <;> intro hc <;> (try (exfalso; omega)))
    | ((with_reducible apply If_any) <;> intro hc)
    | ((with_reducible first | apply PF.mk | apply DrawP.mk); (focus kernel_rfl))
    | ((with_reducible apply Same.mk); (focus rfl); (first | exact trivial | exact rfl))
    | (intro cap hcap)
    | ((fail_if_success (with_reducible apply st)); conv => whnf))
      refine replay_at jA (DF.mk0 C) 0 zz 10 9 ⟨jA_ok, DF.Ok.zero (by omega), by decide, C8, hzz⟩ rfl rfl rfl ⟨rfl, trivial⟩ ?_
      intro x hx
      obtain ⟨n1, n2, n3⟩ := hend zz hzz
      have okR := (replay_ok (z := zz) (DF.Ok.zero (b := C) (by omega)) C8 jA_ok hzl).1
      rw [← hx] at okR n1 n2 n3
      clear hx hend
      repeat' (first
    | (with_reducible first | exact True.intro | apply And.intro | apply If_true | apply If_false | apply If_not)
    | ((with_reducible apply VC.mk); exact vo)
    | ((with_reducible apply If_dec) <;> intro hc <;> (try (exfalso; omega)))
    | ((with_reducible apply If_any) <;> intro hc)
    | ((with_reducible first | apply PF.mk | apply DrawP.mk); (focus kernel_rfl))
    | ((with_reducible apply Same.mk); (focus rfl); (first | exact trivial | exact rfl))
    | (intro cap hcap)
    | ((fail_if_success (with_reducible apply st)); conv => whnf))
      refine bytes_at x.2.2.2 9 (by have := okR.now; omega) rfl ⟨rfl, trivial⟩ ?_
      intro now hnow
      have hnow : now = x.2.2.2.now := hnow
      rw [← hnow] at n2 n3
      clear hnow
      have hgS := hS2
      have htl := hgS.tl
      have hmem : ∀ p : Nat, now.getD p 0 ≠ 0 → memE u.2.2.2.2.2 (p : Int) := fun p hp => by
        by_cases hj : inA p
        · have hj : 512 ≤ p ∧ p < 12800 := hj
          exact hgS.jr _ (by omega) (by omega)
        · obtain ⟨i, hi1, hi2, hi3⟩ := n3
          exact hgS.tch i hi2 p (by rw [← hi3 p hj]; exact hp)
      repeat' (first
    | (with_reducible first | exact True.intro | apply And.intro | apply If_true | apply If_false | apply If_not)
    | ((with_reducible apply VC.mk); exact vo)
    | ((with_reducible apply If_dec) <;> intro hc <;> (try (exfalso; omega)))
    | ((with_reducible apply If_any) <;> intro hc)
    | ((with_reducible first | apply PF.mk | apply DrawP.mk); (focus kernel_rfl))
    | ((with_reducible apply Same.mk); (focus rfl); (first | exact trivial | exact rfl))
    | (intro cap hcap)
    | ((fail_if_success (with_reducible apply st)); conv => whnf))
      refine LoopP.mk ⟨Nat, fun a => a ≤ now.length, fun a => ([(7, .im true 1 z0.length (.ints .u8 z0)), (11, .s 0 0 1 sts2.length cap), (12, .v (.int .i64 ((y.2.1.length - 1 : Nat) : Int))), (14, .im true 2 u.2.2.2.2.2.length (exC u.2.2.2.2.2)), (25, .im true 1 now.length (.ints .u8 now)), (26, .v (.int .i64 ((a : Nat) : Int)))], [.blk 29 (partsC true sts2) (cap * 1)]), fun a => now.length - a, 0, Nat.zero_le _, Fit.ren [8] [6] rfl rfl ⟨trivial, trivial⟩ ?_ ?_, ?_⟩
      · refine ⟨⟨VC.mk ⟨rfl, rfl⟩, VC.mk ⟨rfl, by show sts2.length ≤ _; omega⟩, fun j hj => ?_⟩, trivial⟩
        by_cases hj2 : j < y.2.1.length
        · have hgj : y.2.1.getD j [] = sts2.getD j [] := by rw [hs2, List.getD_eq_getElem?_getD, List.getD_eq_getElem?_getD, List.getElem?_append_left hj2]
          show les _ _ _ _ _ (if j < y.2.1.length then _ else _)
          rw [if_pos hj2]
          exact ⟨⟨VC.mk ⟨rfl, rfl, congrArg List.length hgj⟩, VC.mk ⟨rfl, hgj⟩⟩, trivial⟩
        · have hgj : u.2.2.2.1 = sts2.getD j [] := by
            rw [hs2, List.getD_eq_getElem?_getD, List.getElem?_append_right (by omega), show j - y.2.1.length = 0 by have hj : j < sts2.length := hj; omega]; rfl
          show les _ _ _ _ _ (if j < y.2.1.length then _ else _)
          rw [if_neg hj2]
          exact ⟨⟨VC.mk ⟨by show 0 + u.2.2.2.1.length ≤ u.2.2.2.1.length; omega, rfl, rfl, congrArg List.length hgj, Nat.one_pos⟩, VC.mk ⟨rfl, by rw [List.drop_zero, List.take_length]; exact hgj⟩⟩, trivial⟩
      · repeat' (first
    | (with_reducible first | exact True.intro | apply And.intro | apply If_true | apply If_false | apply If_not)
    | ((with_reducible apply VC.mk); exact vo)
    | ((with_reducible apply If_dec) <;> intro hc <;> (try (exfalso; omega)))
    | ((with_reducible apply If_any) <;> intro hc)
    | ((with_reducible first | apply PF.mk | apply DrawP.mk); (focus kernel_rfl))
    | ((with_reducible apply Same.mk); (focus rfl); (first | exact trivial | exact rfl))
    | (intro cap hcap)
    | ((fail_if_success (with_reducible apply st)); conv => whnf))
        all_goals exact VC.mk ⟨rfl, rfl, rfl, by omega, rfl⟩
      intro a hu
      have eu : ((a : Nat) : Int).toNat = a := Int.toNat_natCast a
      repeat' (first
    | (with_reducible first | exact True.intro | apply And.intro | apply If_true | apply If_false | apply If_not)
    | ((with_reducible apply VC.mk); exact vo)
    | ((with_reducible apply If_dec) <;> intro hc <;> (try (exfalso; omega)))
    | ((with_reducible apply If_any) <;> intro hc)
    | ((with_reducible first | apply PF.mk | apply DrawP.mk); (focus kernel_rfl))
    | ((with_reducible apply Same.mk); (focus rfl); (first | exact trivial | exact rfl))
    | (intro cap hcap)
    | ((fail_if_success (with_reducible apply st)); conv => whnf))
      · have hb1 := hmem a (by rw [eu] at hc; rw [z0g] at hc; exact hc)
        refine ehas_at u.2.2.2.2.2 ((a : Nat) : Int) (by omega) ⟨⟨rfl, rfl, ⟨rfl, rfl, fun _ _ => rfl⟩⟩, rfl, trivial⟩ ?_
        intro b hb
        obtain rfl : b = true := hb.2 hb1
        repeat' (first
    | (with_reducible first | exact True.intro | apply And.intro | apply If_true | apply If_false | apply If_not)
    | ((with_reducible apply VC.mk); exact vo)
    | ((with_reducible apply If_dec) <;> intro hc <;> (try (exfalso; omega)))
    | ((with_reducible apply If_any) <;> intro hc)
    | ((with_reducible first | apply PF.mk | apply DrawP.mk); (focus kernel_rfl))
    | ((with_reducible apply Same.mk); (focus rfl); (first | exact trivial | exact rfl))
    | (intro cap hcap)
    | ((fail_if_success (with_reducible apply st)); conv => whnf))
        refine Round.mk ⟨a + 1, by show a + 1 ≤ _; omega, by show now.length - (a + 1) < now.length - a; omega, Fit.ren [0] [] rfl rfl trivial ?_ ?_⟩
        · repeat' (first
    | (with_reducible first | exact True.intro | apply And.intro | apply If_true | apply If_false | apply If_not)
    | ((with_reducible apply VC.mk); exact vo)
    | ((with_reducible apply If_dec) <;> intro hc <;> (try (exfalso; omega)))
    | ((with_reducible apply If_any) <;> intro hc)
    | ((with_reducible first | apply PF.mk | apply DrawP.mk); (focus kernel_rfl))
    | ((with_reducible apply Same.mk); (focus rfl); (first | exact trivial | exact rfl))
    | (intro cap hcap)
    | ((fail_if_success (with_reducible apply st)); conv => whnf))
        · repeat' (first
    | (with_reducible first | exact True.intro | apply And.intro | apply If_true | apply If_false | apply If_not)
    | ((with_reducible apply VC.mk); exact vo)
    | ((with_reducible apply If_dec) <;> intro hc <;> (try (exfalso; omega)))
    | ((with_reducible apply If_any) <;> intro hc)
    | ((with_reducible first | apply PF.mk | apply DrawP.mk); (focus kernel_rfl))
    | ((with_reducible apply Same.mk); (focus rfl); (first | exact trivial | exact rfl))
    | (intro cap hcap)
    | ((fail_if_success (with_reducible apply st)); conv => whnf))
      · refine Round.mk ⟨a + 1, by show a + 1 ≤ _; omega, by show now.length - (a + 1) < now.length - a; omega, Fit.ren [0] [] rfl rfl trivial ?_ ?_⟩
        · repeat' (first
    | (with_reducible first | exact True.intro | apply And.intro | apply If_true | apply If_false | apply If_not)
    | ((with_reducible apply VC.mk); exact vo)
    | ((with_reducible apply If_dec) <;> intro hc <;> (try (exfalso; omega)))
    | ((with_reducible apply If_any) <;> intro hc)
    | ((with_reducible first | apply PF.mk | apply DrawP.mk); (focus kernel_rfl))
    | ((with_reducible apply Same.mk); (focus rfl); (first | exact trivial | exact rfl))
    | (intro cap hcap)
    | ((fail_if_success (with_reducible apply st)); conv => whnf))
        · repeat' (first
    | (with_reducible first | exact True.intro | apply And.intro | apply If_true | apply If_false | apply If_not)
    | ((with_reducible apply VC.mk); exact vo)
    | ((with_reducible apply If_dec) <;> intro hc <;> (try (exfalso; omega)))
    | ((with_reducible apply If_any) <;> intro hc)
    | ((with_reducible first | apply PF.mk | apply DrawP.mk); (focus kernel_rfl))
    | ((with_reducible apply Same.mk); (focus rfl); (first | exact trivial | exact rfl))
    | (intro cap hcap)
    | ((fail_if_success (with_reducible apply st)); conv => whnf))
      refine LoopP.mk ⟨Nat, fun v => y.2.1.length - 1 ≤ v ∧ v ≤ sts2.length ∧ ∀ i, y.2.1.length - 1 ≤ i → i < v → (sts2.getD i []).drop 12800 ≠ now.drop 12800, fun v => ([(11, .s 0 0 1 sts2.length cap), (25, .im true 1 now.length (.ints .u8 now)), (27, .v (.int .i64 ((v : Nat) : Int)))], [.blk 29 (partsC true sts2) (cap * 1)]), fun v => sts2.length - v, y.2.1.length - 1, ⟨Nat.le_refl _, by omega, fun i h1 h2 => by omega⟩, Fit.ren [0] [] rfl rfl trivial ?_ ?_, ?_⟩
      · repeat' (first
    | (with_reducible first | exact True.intro | apply And.intro | apply If_true | apply If_false | apply If_not)
    | ((with_reducible apply VC.mk); exact vo)
    | ((with_reducible apply If_dec) <;> intro hc <;> (try (exfalso; omega)))
    | ((with_reducible apply If_any) <;> intro hc)
    | ((with_reducible first | apply PF.mk | apply DrawP.mk); (focus kernel_rfl))
    | ((with_reducible apply Same.mk); (focus rfl); (first | exact trivial | exact rfl))
    | (intro cap hcap)
    | ((fail_if_success (with_reducible apply st)); conv => whnf))
      · repeat' (first
    | (with_reducible first | exact True.intro | apply And.intro | apply If_true | apply If_false | apply If_not)
    | ((with_reducible apply VC.mk); exact vo)
    | ((with_reducible apply If_dec) <;> intro hc <;> (try (exfalso; omega)))
    | ((with_reducible apply If_any) <;> intro hc)
    | ((with_reducible first | apply PF.mk | apply DrawP.mk); (focus kernel_rfl))
    | ((with_reducible apply Same.mk); (focus rfl); (first | exact trivial | exact rfl))
    | (intro cap hcap)
    | ((fail_if_success (with_reducible apply st)); conv => whnf))
      intro v hv
      obtain ⟨w1, w2, w3⟩ := hv
      have ev : ((v : Nat) : Int).toNat = v := Int.toNat_natCast v
      have hsl : v < sts2.length → (sts2.getD (0 + ((v : Nat) : Int).toNat) []).length = 18800 := fun h => by rw [ev, Nat.zero_add]; exact hgS.len v h
      repeat' (first
    | (with_reducible first | exact True.intro | apply And.intro | apply If_true | apply If_false | apply If_not)
    | ((with_reducible apply VC.mk); exact vo)
    | ((with_reducible apply If_dec) <;> intro hc <;> (try (exfalso; omega)))
    | ((with_reducible apply If_any) <;> intro hc)
    | ((with_reducible first | apply PF.mk | apply DrawP.mk); (focus kernel_rfl))
    | ((with_reducible apply Same.mk); (focus rfl); (first | exact trivial | exact rfl))
    | (intro cap hcap)
    | ((fail_if_success (with_reducible apply st)); conv => whnf))
      · exact Fin.bool rfl hk
      · have tl1 : List.take (now.length - Int.toNat 12800) (List.drop (Int.toNat 12800) now) = now.drop 12800 := List.take_of_length_le (by rw [List.length_drop]; exact Nat.le_refl _)
        have tl2 : List.take ((sts2.getD (0 + ((v : Nat) : Int).toNat) []).length - Int.toNat 12800) (List.drop (Int.toNat 12800) (sts2.getD (0 + ((v : Nat) : Int).toNat) [])) = (sts2.getD v []).drop 12800 := by
          rw [ev, Nat.zero_add]; exact List.take_of_length_le (by rw [List.length_drop]; exact Nat.le_refl _)
        refine Round.mk ⟨v + 1, ⟨by omega, by show v + 1 ≤ _; omega, fun i h1 h2 => ?_⟩, by show sts2.length - (v + 1) < sts2.length - v; omega, Fit.ren [0] [] rfl rfl trivial ?_ ?_⟩
        · by_cases hi : i < v
          · exact w3 i h1 hi
          · have hiv : i = v := by omega
            intro he
            rw [hiv] at he
            exact hc (congrArg strOf (tl1.trans (he.symm.trans tl2.symm)))
        · repeat' (first
    | (with_reducible first | exact True.intro | apply And.intro | apply If_true | apply If_false | apply If_not)
    | ((with_reducible apply VC.mk); exact vo)
    | ((with_reducible apply If_dec) <;> intro hc <;> (try (exfalso; omega)))
    | ((with_reducible apply If_any) <;> intro hc)
    | ((with_reducible first | apply PF.mk | apply DrawP.mk); (focus kernel_rfl))
    | ((with_reducible apply Same.mk); (focus rfl); (first | exact trivial | exact rfl))
    | (intro cap hcap)
    | ((fail_if_success (with_reducible apply st)); conv => whnf))
        · repeat' (first
    | (with_reducible first | exact True.intro | apply And.intro | apply If_true | apply If_false | apply If_not)
    | ((with_reducible apply VC.mk); exact vo)
    | ((with_reducible apply If_dec) <;> intro hc <;> (try (exfalso; omega)))
    | ((with_reducible apply If_any) <;> intro hc)
    | ((with_reducible first | apply PF.mk | apply DrawP.mk); (focus kernel_rfl))
    | ((with_reducible apply Same.mk); (focus rfl); (first | exact trivial | exact rfl))
    | (intro cap hcap)
    | ((fail_if_success (with_reducible apply st)); conv => whnf))
      exfalso
      obtain ⟨i, i1, i2, i3⟩ := n3
      refine w3 i i1 (by omega) (ext_getD (by rw [List.length_drop, List.length_drop, hgS.len i i2, n2]) (fun p hp => ?_))
      rw [dropD, dropD]
      exact (i3 _ (fun h => by have h : 512 ≤ 12800 + p ∧ 12800 + p < 12800 := h; omega)).symm

    obtain ⟨sts2, hs2⟩ : ∃ s2 : List (List Int), s2 = y.2.1 ++ [u.2.2.2.1] := ⟨_, rfl⟩
    have hl2 : sts2.length = y.2.1.length + 1 := by rw [hs2, List.length_append]; rfl
    have hnl := uP.nl
    have hS2 : StA sts2 u.2.2.2.2.2 (8 * y.1 + 8) := by
      have h := (gS.more (u' := 8 * y.1 + 8) u4 (by have := gS.tl; omega) u6).snoc hnl u3
      rw [← hs2] at h; exact h
    have hlast : sts2.getD (sts2.length - 1) [] = u.2.2.2.1 := by
      rw [hl2, hs2, Nat.add_sub_cancel, List.getD_eq_getElem?_getD, List.getElem?_append_right (Nat.le_refl _), Nat.sub_self]; rfl
    obtain ⟨c', hF2⟩ := c3 (by omega)
    rw [← hlast] at hF2
    refine Round.mk ⟨(y.1 + 1, sts2, cap, u.2.2.2.2.2, j3, s3, c', y.2.2.2.2.2.2.2 + u.2.1 + 10000001), ⟨by show y.1 + 1 ≤ _; omega, by show 0 < sts2.length; omega, by show sts2.length ≤ 1 + (y.1 + 1); omega, hS2, hF2, by show 0 ≤ y.2.2.2.2.2.2.2 + (u.2.1 : Int) + 10000001; omega, by show y.2.2.2.2.2.2.2 + (u.2.1 : Int) + 10000001 ≤ 20000000 * ((y.1 + 1 : Nat) : Int); omega⟩, by show rs.length - (y.1 + 1) < rs.length - y.1; omega, Fit.ren [3, 4, 8] [6] rfl rfl ⟨trivial, trivial⟩ ?_ ?_⟩
    · refine ⟨⟨VC.mk ⟨rfl, rfl⟩, VC.mk ⟨rfl, rfl, rfl, rfl⟩, VC.mk rfl, VC.mk rfl, VC.mk rfl, trivial⟩, VC.mk ⟨rfl, rfl, rfl, rfl⟩, ⟨VC.mk ⟨rfl, rfl⟩, VC.mk ⟨rfl, by show sts2.length ≤ _; omega⟩, fun j hj => ?_⟩, trivial⟩
      by_cases hj2 : j < y.2.1.length
      · have hgj : y.2.1.getD j [] = sts2.getD j [] := by rw [hs2, List.getD_eq_getElem?_getD, List.getD_eq_getElem?_getD, List.getElem?_append_left hj2]
        show les _ _ _ _ _ (if j < y.2.1.length then _ else _)
        rw [if_pos hj2]
        exact ⟨⟨VC.mk ⟨rfl, rfl, congrArg List.length hgj⟩, VC.mk ⟨rfl, hgj⟩⟩, trivial⟩
      · have hgj : u.2.2.2.1 = sts2.getD j [] := by
          rw [hs2, List.getD_eq_getElem?_getD, List.getElem?_append_right (by omega), show j - y.2.1.length = 0 by have hj : j < sts2.length := hj; omega]; rfl
        show les _ _ _ _ _ (if j < y.2.1.length then _ else _)
        rw [if_neg hj2]
        exact ⟨⟨VC.mk ⟨by show 0 + u.2.2.2.1.length ≤ u.2.2.2.1.length; omega, rfl, rfl, congrArg List.length hgj, Nat.one_pos⟩, VC.mk ⟨rfl, by rw [List.drop_zero, List.take_length]; exact hgj⟩⟩, trivial⟩
    · repeat' (first
    | (with_reducible first | exact True.intro | apply And.intro | apply If_true | apply If_false | apply If_not)
    | ((with_reducible apply VC.mk); exact vo)
    | ((with_reducible apply If_dec) <;> intro hc <;> (try (exfalso; omega)))
    | ((with_reducible apply If_any) <;> intro hc)
    | ((with_reducible first | apply PF.mk | apply DrawP.mk); (focus kernel_rfl))
    | ((with_reducible apply Same.mk); (focus rfl); (first | exact trivial | exact rfl))
    | (intro cap hcap)
    | ((fail_if_success (with_reducible apply st)); conv => whnf))
      all_goals first
        | exact VC.mk ⟨rfl, rfl, rfl, hl2.symm, rfl⟩
        | exact VC.mk ⟨by show 0 + u.2.2.2.1.length ≤ u.2.2.2.1.length; omega, rfl, rfl, (congrArg List.length hlast).symm, Nat.one_pos⟩
        | exact VC.mk ⟨rfl, by rw [List.drop_zero, List.take_length]; exact hlast.symm⟩

  have hul : u.1 < (rs.getD ((y.1 : Nat) : Int).toNat ([], [])).1.length := by omega
  have hat : inR .i64 ((rs.getD ((y.1 : Nat) : Int).toNat ([], [])).1.getD ((u.1 : Nat) : Int).toNat 0) := by
    rw [eu]; exact v1 _ (getD_memI hul)
  have hsok := gF.sok
  have hops := hsok.ops
  have hnowl : y.2.2.2.2.2.1.now.length ≤ 4194304 := hsok.now
  have hq := uP.ops
  refine pick_at ((rs.getD ((y.1 : Nat) : Int).toNat ([], [])).1.getD ((u.1 : Nat) : Int).toNat 0) 5000 ⟨hat, by decide, by decide⟩ ⟨rfl, rfl, trivial⟩ ?_
  intro r hr
  have hr : 0 ≤ r ∧ r < 5000 := by rw [hr]; exact ⟨Int.emod_nonneg _ (by decide), Int.emod_lt_of_pos _ (by decide)⟩
  have hA2 : 12800 ≤ (12800 + r : Int).toNat ∧ (12800 + r : Int).toNat < 17800 := by omega
  have hnl := uP.nl
  repeat' (first
    | (with_reducible first | exact True.intro | apply And.intro | apply If_true | apply If_false | apply If_not)
    | ((with_reducible apply VC.mk); exact vo)
    | ((with_reducible apply If_dec) <;> intro hc <;> (try (exfalso; omega)))
    | ((with_reducible apply If_any) <;> intro hc)
    | ((with_reducible first | apply PF.mk | apply DrawP.mk); (focus kernel_rfl))
    | ((with_reducible apply Same.mk); (focus rfl); (first | exact trivial | exact rfl))
    | (intro cap hcap)
    | ((fail_if_success (with_reducible apply st)); conv => whnf))
  refine tputS_at u.2.2.1 y.2.2.2.2.1 (y.2.2.2.2.2.1.tick u.2.1) (12800 + r) (rs.getD ((y.1 : Nat) : Int).toNat ([], [])).2 0 1 2 3 4 ⟨uP.ok, ⟨by simp only [inR]; omega, by omega⟩, by show 0 ≤ y.2.2.2.2.2.1.ops + (u.2.1 : Int); omega, by show y.2.2.2.2.2.1.ops + (u.2.1 : Int) ≤ _; omega, hnowl⟩ rfl rfl rfl rfl rfl rfl ⟨rfl, rfl, ⟨rfl, rfl, rfl⟩, trivial⟩ ?_
  rintro ⟨e1, t1, d1⟩ hr1
  have hov := uP.over
  dsimp only at hr1 ⊢
  have hcs : (e1 = 0 ∧ t1 = u.2.2.1.put y.2.2.2.2.2.2.1 (12800 + r : Int).toNat (rs.getD ((y.1 : Nat) : Int).toNat ([], [])).2 ∧ d1 ≤ 600) ∨ (e1 = 5 ∧ d1 ≤ 600) := by
    rcases hr1 with ⟨h, -⟩ | ⟨-, h, -⟩ | ⟨-, -, h1, h2, h3⟩ | ⟨h1, h2⟩
    · rw [hov] at h; cases h
    · exact absurd (by unfold inB; omega) h
    · refine .inl ⟨h1, ?_, by omega⟩
      rw [h2, show (y.2.2.2.2.2.1.tick u.2.1).now = y.2.2.2.2.2.2.1 from gF.now]
    · exact .inr ⟨h1, by omega⟩
  clear hr1
  rcases hcs with ⟨rfl, ht1, h3⟩ | ⟨rfl, h3⟩
  rotate_left
  · repeat' (first
    | (with_reducible first | exact True.intro | apply And.intro | apply If_true | apply If_false | apply If_not)
    | ((with_reducible apply VC.mk); exact vo)
    | ((with_reducible apply If_dec) <;> intro hc <;> (try (exfalso; omega)))
    | ((with_reducible apply If_any) <;> intro hc)
    | ((with_reducible first | apply PF.mk | apply DrawP.mk); (focus kernel_rfl))
    | ((with_reducible apply Same.mk); (focus rfl); (first | exact trivial | exact rfl))
    | (intro cap hcap)
    | ((fail_if_success (with_reducible apply st)); conv => whnf))
    obtain ⟨sts2, hs2⟩ : ∃ s2 : List (List Int), s2 = y.2.1 ++ [u.2.2.2.1] := ⟨_, rfl⟩
    have hl2 : sts2.length = y.2.1.length + 1 := by rw [hs2, List.length_append]; rfl
    have hnl := uP.nl
    have hS2 : StA sts2 u.2.2.2.2.2 (8 * y.1 + 8) := by
      have h := (gS.more (u' := 8 * y.1 + 8) u4 (by have := gS.tl; omega) u6).snoc hnl u3
      rw [← hs2] at h; exact h
    obtain ⟨zz, hzz⟩ : ∃ zz : List Int, zz = List.replicate 512 0 := ⟨_, rfl⟩
    have hzl : zz.length = 512 := by rw [hzz]; exact List.length_replicate ..
    have okE := (gF.sok.tick u.2.1).tick d1
    refine crash_at ((y.2.2.2.2.2.1.tick u.2.1).tick d1) ks 4 ⟨okE.safe, by omega, by have := okE.len; omega, okE.its⟩ rfl ⟨rfl, ⟨rfl, rfl, ⟨rfl, rfl, fun _ _ => rfl⟩⟩, trivial⟩ ?_
    intro C hC
    have hend := gF.crash (sts := sts2) (sure := y.2.1.length - 1) (i := y.2.1.length - 1) ⟨Nat.le_refl _, by omega⟩ (by rw [hs2, List.getD_eq_getElem?_getD, List.getD_eq_getElem?_getD, List.getElem?_append_left (by omega)]) ks (s' := (y.2.2.2.2.2.1.tick u.2.1).tick d1) rfl rfl
    rw [← hC] at hend
    obtain ⟨C8, Cl, hend⟩ := hend
    clear hC
    have hE2 : newE (DF.mk0 C) 512 12288 = 0 := by
      have : (DF.mk0 C).now.length = C.length := rfl
      unfold newE
      rw [if_neg (by decide), if_neg]
      omega
    repeat' (first
    | (with_reducible first | exact True.intro | apply And.intro | apply If_true | apply If_false | apply If_not)
    | ((with_reducible apply VC.mk); exact vo)
    | ((with_reducible apply If_dec) <;> intro hc <;> (try (exfalso; omega)))
    | ((with_reducible apply If_any) <;> intro hc)
    | ((with_reducible first | apply PF.mk | apply DrawP.mk); (focus kernel_rfl))
    | ((with_reducible apply Same.mk); (focus rfl); (first | exact trivial | exact rfl))
    | (intro cap hcap)
    | ((fail_if_success (with_reducible apply st)); conv => whnf))
    refine new_at C (by omega) ⟨⟨rfl, rfl, rfl⟩, trivial⟩ (fun h => absurd h (by omega)) (fun _ => ?_)
    repeat' (first
    | (with_reducible first | exact True.intro | apply And.intro | apply If_true | apply If_false | apply If_not)
    | ((with_reducible apply VC.mk); exact vo)
    | ((with_reducible apply If_dec) <;> intro hc <;> (try (exfalso; omega)))
    | ((with_reducible apply If_any) <;> intro hc)
    | ((with_reducible first | apply PF.mk | apply DrawP.mk); (focus kernel_rfl))
    | ((with_reducible apply Same.mk); (focus rfl); (first | exact trivial | exact rfl))
    | (intro cap hcap)
    | ((fail_if_success (with_reducible apply st)); conv => whnf))
    refine jnew_at (DF.mk0 C) 512 12288 9 ⟨by show C.length ≤ _; omega, by simp [inR], by simp [inR]⟩ rfl ⟨rfl, rfl, rfl, trivial⟩ (fun h => absurd hE2 h) (fun _ => ?_)
    repeat' (first
    | (with_reducible first | exact True.intro | apply And.intro | apply If_true | apply If_false | apply If_not)
    | ((with_reducible apply VC.mk); exact vo)
    | ((with_reducible apply If_dec) <;> intro hc <;> (try (exfalso; omega)))
    | ((with_reducible apply If_any) <;> intro hc)
    | ((with_reducible first | apply PF.mk | apply DrawP.mk); (focus kernel_rfl))
    | ((with_reducible apply Same.mk); (focus rfl); (first | exact trivial | exact rfl))
    | (intro cap hcap)
    | ((fail_if_success (with_reducible apply st)); conv => whnf))
    refine replay_at jA (DF.mk0 C) 0 zz 10 9 ⟨jA_ok, DF.Ok.zero (by omega), by decide, C8, hzz⟩ rfl rfl rfl ⟨rfl, trivial⟩ ?_
    intro x hx
    obtain ⟨n1, n2, n3⟩ := hend zz hzz
    have okR := (replay_ok (z := zz) (DF.Ok.zero (b := C) (by omega)) C8 jA_ok hzl).1
    rw [← hx] at okR n1 n2 n3
    clear hx hend
    repeat' (first
    | (with_reducible first | exact True.intro | apply And.intro | apply If_true | apply If_false | apply If_not)
    | ((with_reducible apply VC.mk); exact vo)
    | ((with_reducible apply If_dec) <;> intro hc <;> (try (exfalso; omega)))
    | ((with_reducible apply If_any) <;> intro hc)
    | ((with_reducible first | apply PF.mk | apply DrawP.mk); (focus kernel_rfl))
    | ((with_reducible apply Same.mk); (focus rfl); (first | exact trivial | exact rfl))
    | (intro cap hcap)
    | ((fail_if_success (with_reducible apply st)); conv => whnf))
    refine bytes_at x.2.2.2 9 (by have := okR.now; omega) rfl ⟨rfl, trivial⟩ ?_
    intro now hnow
    have hnow : now = x.2.2.2.now := hnow
    rw [← hnow] at n2 n3
    clear hnow
    have hgS := hS2
    have htl := hgS.tl
    have hmem : ∀ p : Nat, now.getD p 0 ≠ 0 → memE u.2.2.2.2.2 (p : Int) := fun p hp => by
      by_cases hj : inA p
      · have hj : 512 ≤ p ∧ p < 12800 := hj
        exact hgS.jr _ (by omega) (by omega)
      · obtain ⟨i, hi1, hi2, hi3⟩ := n3
        exact hgS.tch i hi2 p (by rw [← hi3 p hj]; exact hp)
    repeat' (first
    | (with_reducible first | exact True.intro | apply And.intro | apply If_true | apply If_false | apply If_not)
    | ((with_reducible apply VC.mk); exact vo)
    | ((with_reducible apply If_dec) <;> intro hc <;> (try (exfalso; omega)))
    | ((with_reducible apply If_any) <;> intro hc)
    | ((with_reducible first | apply PF.mk | apply DrawP.mk); (focus kernel_rfl))
    | ((with_reducible apply Same.mk); (focus rfl); (first | exact trivial | exact rfl))
    | (intro cap hcap)
    | ((fail_if_success (with_reducible apply st)); conv => whnf))
    refine LoopP.mk ⟨Nat, fun a => a ≤ now.length, fun a => ([(7, .im true 1 z0.length (.ints .u8 z0)), (11, .s 0 0 1 sts2.length cap), (12, .v (.int .i64 ((y.2.1.length - 1 : Nat) : Int))), (14, .im true 2 u.2.2.2.2.2.length (exC u.2.2.2.2.2)), (25, .im true 1 now.length (.ints .u8 now)), (26, .v (.int .i64 ((a : Nat) : Int)))], [.blk 29 (partsC true sts2) (cap * 1)]), fun a => now.length - a, 0, Nat.zero_le _, Fit.ren [8] [6] rfl rfl ⟨trivial, trivial⟩ ?_ ?_, ?_⟩
    · refine ⟨⟨VC.mk ⟨rfl, rfl⟩, VC.mk ⟨rfl, by show sts2.length ≤ _; omega⟩, fun j hj => ?_⟩, trivial⟩
      by_cases hj2 : j < y.2.1.length
      · have hgj : y.2.1.getD j [] = sts2.getD j [] := by rw [hs2, List.getD_eq_getElem?_getD, List.getD_eq_getElem?_getD, List.getElem?_append_left hj2]
        show les _ _ _ _ _ (if j < y.2.1.length then _ else _)
        rw [if_pos hj2]
        exact ⟨⟨VC.mk ⟨rfl, rfl, congrArg List.length hgj⟩, VC.mk ⟨rfl, hgj⟩⟩, trivial⟩
      · have hgj : u.2.2.2.1 = sts2.getD j [] := by
          rw [hs2, List.getD_eq_getElem?_getD, List.getElem?_append_right (by omega), show j - y.2.1.length = 0 by have hj : j < sts2.length := hj; omega]; rfl
        show les _ _ _ _ _ (if j < y.2.1.length then _ else _)
        rw [if_neg hj2]
        exact ⟨⟨VC.mk ⟨by show 0 + u.2.2.2.1.length ≤ u.2.2.2.1.length; omega, rfl, rfl, congrArg List.length hgj, Nat.one_pos⟩, VC.mk ⟨rfl, by rw [List.drop_zero, List.take_length]; exact hgj⟩⟩, trivial⟩
    · repeat' (first
    | (with_reducible first | exact True.intro | apply And.intro | apply If_true | apply If_false | apply If_not)
    | ((with_reducible apply VC.mk); exact vo)
    | ((with_reducible apply If_dec) <;> intro hc <;> (try (exfalso; omega)))
    | ((with_reducible apply If_any) <;> intro hc)
    | ((with_reducible first | apply PF.mk | apply DrawP.mk); (focus kernel_rfl))
    | ((with_reducible apply Same.mk); (focus rfl); (first | exact trivial | exact rfl))
    | (intro cap hcap)
    | ((fail_if_success (with_reducible apply st)); conv => whnf))
      all_goals exact VC.mk ⟨rfl, rfl, rfl, by omega, rfl⟩
    intro a hu
    have eu : ((a : Nat) : Int).toNat = a := Int.toNat_natCast a
    repeat' (first
    | (with_reducible first | exact True.intro | apply And.intro | apply If_true | apply If_false | apply If_not)
    | ((with_reducible apply VC.mk); exact vo)
    | ((with_reducible apply If_dec) <;> intro hc <;> (try (exfalso; omega)))
    | ((with_reducible apply If_any) <;> intro hc)
    | ((with_reducible first | apply PF.mk | apply DrawP.mk); (focus kernel_rfl))
    | ((with_reducible apply Same.mk); (focus rfl); (first | exact trivial | exact rfl))
    | (intro cap hcap)
    | ((fail_if_success (with_reducible apply st)); conv => whnf))
    · have hb1 := hmem a (by rw [eu] at hc; rw [z0g] at hc; exact hc)
      refine ehas_at u.2.2.2.2.2 ((a : Nat) : Int) (by omega) ⟨⟨rfl, rfl, ⟨rfl, rfl, fun _ _ => rfl⟩⟩, rfl, trivial⟩ ?_
      intro b hb
      obtain rfl : b = true := hb.2 hb1
      repeat' (first
    | (with_reducible first | exact True.intro | apply And.intro | apply If_true | apply If_false | apply If_not)
    | ((with_reducible apply VC.mk); exact vo)
    | ((with_reducible apply If_dec) <;> intro hc <;> (try (exfalso; omega)))
    | ((with_reducible apply If_any) <;> intro hc)
    | ((with_reducible first | apply PF.mk | apply DrawP.mk); (focus kernel_rfl))
    | ((with_reducible apply Same.mk); (focus rfl); (first | exact trivial | exact rfl))
    | (intro cap hcap)
    | ((fail_if_success (with_reducible apply st)); conv => whnf))
      refine Round.mk ⟨a + 1, by show a + 1 ≤ _; omega, by show now.length - (a + 1) < now.length - a; omega, Fit.ren [0] [] rfl rfl trivial ?_ ?_⟩
      · repeat' (first
    | (with_reducible first | exact True.intro | apply And.intro | apply If_true | apply If_false | apply If_not)
    | ((with_reducible apply VC.mk); exact vo)
    | ((with_reducible apply If_dec) <;> intro hc <;> (try (exfalso; omega)))
    | ((with_reducible apply If_any) <;> intro hc)
    | ((with_reducible first | apply PF.mk | apply DrawP.mk); (focus kernel_rfl))
    | ((with_reducible apply Same.mk); (focus rfl); (first | exact trivial | exact rfl))
    | (intro cap hcap)
    | ((fail_if_success (with_reducible apply st)); conv => whnf))
      · repeat' (first
    | (with_reducible first | exact True.intro | apply And.intro | apply If_true | apply If_false | apply If_not)
    | ((with_reducible apply VC.mk); exact vo)
    | ((with_reducible apply If_dec) <;> intro hc <;> (try (exfalso; omega)))
    | ((with_reducible apply If_any) <;> intro hc)
    | ((with_reducible first | apply PF.mk | apply DrawP.mk); (focus kernel_rfl))
    | ((with_reducible apply Same.mk); (focus rfl); (first | exact trivial | exact rfl))
    | (intro cap hcap)
    | ((fail_if_success (with_reducible apply st)); conv => whnf))
    · refine Round.mk ⟨a + 1, by show a + 1 ≤ _; omega, by show now.length - (a + 1) < now.length - a; omega, Fit.ren [0] [] rfl rfl trivial ?_ ?_⟩
      · repeat' (first
    | (with_reducible first | exact True.intro | apply And.intro | apply If_true | apply If_false | apply If_not)
    | ((with_reducible apply VC.mk); exact vo)
    | ((with_reducible apply If_dec) <;> intro hc <;> (try (exfalso; omega)))
    | ((with_reducible apply If_any) <;> intro hc)
    | ((with_reducible first | apply PF.mk | apply DrawP.mk); (focus kernel_rfl))
    | ((with_reducible apply Same.mk); (focus rfl); (first | exact trivial | exact rfl))
    | (intro cap hcap)
    | ((fail_if_success (with_reducible apply st)); conv => whnf))
      · repeat' (first
    | (with_reducible first | exact True.intro | apply And.intro | apply If_true | apply If_false | apply If_not)
    | ((with_reducible apply VC.mk); exact vo)
    | ((with_reducible apply If_dec) <;> intro hc <;> (try (exfalso; omega)))
    | ((with_reducible apply If_any) <;> intro hc)
    | ((with_reducible first | apply PF.mk | apply DrawP.mk); (focus kernel_rfl))
    | ((with_reducible apply Same.mk); (focus rfl); (first | exact trivial | exact rfl))
    | (intro cap hcap)
    | ((fail_if_success (with_reducible apply st)); conv => whnf))
    refine LoopP.mk ⟨Nat, fun v => y.2.1.length - 1 ≤ v ∧ v ≤ sts2.length ∧ ∀ i, y.2.1.length - 1 ≤ i → i < v → (sts2.getD i []).drop 12800 ≠ now.drop 12800, fun v => ([(11, .s 0 0 1 sts2.length cap), (25, .im true 1 now.length (.ints .u8 now)), (27, .v (.int .i64 ((v : Nat) : Int)))], [.blk 29 (partsC true sts2) (cap * 1)]), fun v => sts2.length - v, y.2.1.length - 1, ⟨Nat.le_refl _, by omega, fun i h1 h2 => by omega⟩, Fit.ren [0] [] rfl rfl trivial ?_ ?_, ?_⟩
    · repeat' (first
    | (with_reducible first | exact True.intro | apply And.intro | apply If_true | apply If_false | apply If_not)
    | ((with_reducible apply VC.mk); exact vo)
    | ((with_reducible apply If_dec) <;> intro hc <;> (try (exfalso; omega)))
    | ((with_reducible apply If_any) <;> intro hc)
    | ((with_reducible first | apply PF.mk | apply DrawP.mk); (focus kernel_rfl))
    | ((with_reducible apply Same.mk); (focus rfl); (first | exact trivial | exact rfl))
    | (intro cap hcap)
    | ((fail_if_success (with_reducible apply st)); conv => whnf))
    · repeat' (first
    | (with_reducible first | exact True.intro | apply And.intro | apply If_true | apply If_false | apply If_not)
    | ((with_reducible apply VC.mk); exact vo)
    | ((with_reducible apply If_dec) <;> intro hc <;> (try (exfalso; omega)))
    | ((with_reducible apply If_any) <;> intro hc)
    | ((with_reducible first | apply PF.mk | apply DrawP.mk); (focus kernel_rfl))
    | ((with_reducible apply Same.mk); (focus rfl); (first | exact trivial | exact rfl))
    | (intro cap hcap)
    | ((fail_if_success (with_reducible apply st)); conv => whnf))
    intro v hv
    obtain ⟨w1, w2, w3⟩ := hv
    have ev : ((v : Nat) : Int).toNat = v := Int.toNat_natCast v
    have hsl : v < sts2.length → (sts2.getD (0 + ((v : Nat) : Int).toNat) []).length = 18800 := fun h => by rw [ev, Nat.zero_add]; exact hgS.len v h
    repeat' (first
    | (with_reducible first | exact True.intro | apply And.intro | apply If_true | apply If_false | apply If_not)
    | ((with_reducible apply VC.mk); exact vo)
    | ((with_reducible apply If_dec) <;> intro hc <;> (try (exfalso; omega)))
    | ((with_reducible apply If_any) <;> intro hc)
    | ((with_reducible first | apply PF.mk | apply DrawP.mk); (focus kernel_rfl))
    | ((with_reducible apply Same.mk); (focus rfl); (first | exact trivial | exact rfl))
    | (intro cap hcap)
    | ((fail_if_success (with_reducible apply st)); conv => whnf))
    · exact Fin.bool rfl hk
    · have tl1 : List.take (now.length - Int.toNat 12800) (List.drop (Int.toNat 12800) now) = now.drop 12800 := List.take_of_length_le (by rw [List.length_drop]; exact Nat.le_refl _)
      have tl2 : List.take ((sts2.getD (0 + ((v : Nat) : Int).toNat) []).length - Int.toNat 12800) (List.drop (Int.toNat 12800) (sts2.getD (0 + ((v : Nat) : Int).toNat) [])) = (sts2.getD v []).drop 12800 := by
        rw [ev, Nat.zero_add]; exact List.take_of_length_le (by rw [List.length_drop]; exact Nat.le_refl _)
      refine Round.mk ⟨v + 1, ⟨by omega, by show v + 1 ≤ _; omega, fun i h1 h2 => ?_⟩, by show sts2.length - (v + 1) < sts2.length - v; omega, Fit.ren [0] [] rfl rfl trivial ?_ ?_⟩
      · by_cases hi : i < v
        · exact w3 i h1 hi
        · have hiv : i = v := by omega
          intro he
          rw [hiv] at he
          exact hc (congrArg strOf (tl1.trans (he.symm.trans tl2.symm)))
      · repeat' (first
    | (with_reducible first | exact True.intro | apply And.intro | apply If_true | apply If_false | apply If_not)
    | ((with_reducible apply VC.mk); exact vo)
    | ((with_reducible apply If_dec) <;> intro hc <;> (try (exfalso; omega)))
    | ((with_reducible apply If_any) <;> intro hc)
    | ((with_reducible first | apply PF.mk | apply DrawP.mk); (focus kernel_rfl))
    | ((with_reducible apply Same.mk); (focus rfl); (first | exact trivial | exact rfl))
    | (intro cap hcap)
    | ((fail_if_success (with_reducible apply st)); conv => whnf))
      · repeat' (first
    | (with_reducible first | exact True.intro | apply And.intro | apply If_true | apply If_false | apply If_not)
    | ((with_reducible apply VC.mk); exact vo)
    | ((with_reducible apply If_dec) <;> intro hc <;> (try (exfalso; omega)))
    | ((with_reducible apply If_any) <;> intro hc)
    | ((with_reducible first | apply PF.mk | apply DrawP.mk); (focus kernel_rfl))
    | ((with_reducible apply Same.mk); (focus rfl); (first | exact trivial | exact rfl))
    | (intro cap hcap)
    | ((fail_if_success (with_reducible apply st)); conv => whnf))
    exfalso
    obtain ⟨i, i1, i2, i3⟩ := n3
    refine w3 i i1 (by omega) (ext_getD (by rw [List.length_drop, List.length_drop, hgS.len i i2, n2]) (fun p hp => ?_))
    rw [dropD, dropD]
    exact (i3 _ (fun h => by have h : 512 ≤ 12800 + p ∧ 12800 + p < 12800 := h; omega)).symm

  have b8 := v2
  have hEx : ∀ x ∈ [((12800 + r), (12800 + r) + ((rs.getD ((y.1 : Nat) : Int).toNat ([], [])).2.length : Int))], inR .i64 x.1 ∧ inR .i64 x.2 := fun x hx => by rw [List.mem_singleton.1 hx]; simp only [inR]; omega
  repeat' (first
    | (with_reducible first | exact True.intro | apply And.intro | apply If_true | apply If_false | apply If_not)
    | ((with_reducible apply VC.mk); exact vo)
    | ((with_reducible apply If_dec) <;> intro hc <;> (try (exfalso; omega)))
    | ((with_reducible apply If_any) <;> intro hc)
    | ((with_reducible first | apply PF.mk | apply DrawP.mk); (focus kernel_rfl))
    | ((with_reducible apply Same.mk); (focus rfl); (first | exact trivial | exact rfl))
    | (intro cap hcap)
    | ((fail_if_success (with_reducible apply st)); conv => whnf))
  refine enorm_at [((12800 + r), (12800 + r) + ((rs.getD ((y.1 : Nat) : Int).toNat ([], [])).2.length : Int))] ⟨⟨Nat.one_pos, by show 1 ≤ 1048576; decide⟩, hEx⟩ ⟨⟨by decide, rfl, rfl, ⟨rfl, rfl, fun j hj => by match j, hj with | 0, _ => rfl⟩, rfl, Nat.two_pos⟩, trivial⟩ ?_
  rintro nr ⟨n1, n2, n3⟩
  have n2 : nr.length ≤ 1 := n2
  have htl := gS.tl
  have hfl : ([u.2.2.2.2.2, nr] : List (List ExR)).flatten = u.2.2.2.2.2 ++ nr := by simp
  have hfe : ∀ z, memE ([u.2.2.2.2.2, nr] : List (List ExR)).flatten z ↔ memE u.2.2.2.2.2 z ∨ memE nr z := fun z => by rw [hfl]; exact memE_append _ _ _
  have hfn : ([u.2.2.2.2.2, nr] : List (List ExR)).flatten.length = u.2.2.2.2.2.length + nr.length := by rw [hfl]; exact List.length_append
  have htp : 0 < u.2.2.2.2.2.length := memE_pos (u4 512 (gS.jr 512 (by decide) (by decide)))
  repeat' (first
    | (with_reducible first | exact True.intro | apply And.intro | apply If_true | apply If_false | apply If_not)
    | ((with_reducible apply VC.mk); exact vo)
    | ((with_reducible apply If_dec) <;> intro hc <;> (try (exfalso; omega)))
    | ((with_reducible apply If_any) <;> intro hc)
    | ((with_reducible first | apply PF.mk | apply DrawP.mk); (focus kernel_rfl))
    | ((with_reducible apply Same.mk); (focus rfl); (first | exact trivial | exact rfl))
    | (intro cap hcap)
    | ((fail_if_success (with_reducible apply st)); conv => whnf))
  refine eunion_at [u.2.2.2.2.2, nr] ⟨⟨by omega, by omega, by show 2 ≤ 1048576; decide⟩, fun x hx => ?_⟩ ⟨⟨by decide, rfl, rfl, ⟨rfl, rfl, fun j hj => by match j, hj with | 0, _ => rfl | 1, _ => rfl⟩, rfl, Nat.one_pos⟩, trivial⟩ ?_
  · rw [hfl] at hx
    rcases List.mem_append.1 hx with h | h
    · exact u6 x h
    · exact n3 x h
  rintro nt ⟨m1, m2, m3⟩
  rw [hfn] at m2
  have hput := uP.put (d := d1) gF.pos gF.size hA2 b6 v2 h3
  rw [← ht1] at hput
  have hpl : (12800 + r : Int).toNat + (rs.getD ((y.1 : Nat) : Int).toNat ([], [])).2.length ≤ u.2.2.2.1.length := by omega
  have hpg : List.take (0 + (12800 + r : Int).toNat) u.2.2.2.1 ++ List.take (min (rs.getD ((y.1 : Nat) : Int).toNat ([], [])).2.length (u.2.2.2.1.length - (12800 + r : Int).toNat)) (rs.getD ((y.1 : Nat) : Int).toNat ([], [])).2 ++ List.drop (0 + (12800 + r : Int).toNat + min (rs.getD ((y.1 : Nat) : Int).toNat ([], [])).2.length (u.2.2.2.1.length - (12800 + r : Int).toNat)) u.2.2.2.1 = putG u.2.2.2.1 (12800 + r : Int).toNat (rs.getD ((y.1 : Nat) : Int).toNat ([], [])).2 := by
    rw [show min (rs.getD ((y.1 : Nat) : Int).toNat ([], [])).2.length (u.2.2.2.1.length - (12800 + r : Int).toNat) = (rs.getD ((y.1 : Nat) : Int).toNat ([], [])).2.length by omega, Nat.zero_add, List.take_length, List.append_assoc]
    rfl
  have hgl : u.2.2.2.1.length = (putG u.2.2.2.1 (12800 + r : Int).toNat (rs.getD ((y.1 : Nat) : Int).toNat ([], [])).2).length := by rw [hput.nl, hnl]
  repeat' (first
    | (with_reducible first | exact True.intro | apply And.intro | apply If_true | apply If_false | apply If_not)
    | ((with_reducible apply VC.mk); exact vo)
    | ((with_reducible apply If_dec) <;> intro hc <;> (try (exfalso; omega)))
    | ((with_reducible apply If_any) <;> intro hc)
    | ((with_reducible first | apply PF.mk | apply DrawP.mk); (focus kernel_rfl))
    | ((with_reducible apply Same.mk); (focus rfl); (first | exact trivial | exact rfl))
    | (intro cap hcap)
    | ((fail_if_success (with_reducible apply st)); conv => whnf))
  rw [tick_tick, hpg]
  refine Round.mk ⟨(u.1 + 1, u.2.1 + d1, t1, putG u.2.2.2.1 (12800 + r : Int).toNat (rs.getD ((y.1 : Nat) : Int).toNat ([], [])).2, u.2.2.2.2.1, nt), ⟨hul, hput, fun p hp => ?_, fun z hz => (m1 z).2 ((hfe z).2 (.inl (u4 z hz))), by show nt.length ≤ _ + (u.1 + 1); omega, m3⟩, by show (rs.getD ((y.1 : Nat) : Int).toNat ([], [])).1.length - (u.1 + 1) < (rs.getD ((y.1 : Nat) : Int).toNat ([], [])).1.length - u.1; omega, Fit.ren [0, 1, 2, 3, 4, 5, 6] [] rfl rfl trivial (T5.leG (cs := [.blk 29 (partsC true y.2.1) (y.2.2.1 * 1), .blk 5 (.ints .u8 (putG u.2.2.2.1 (12800 + r : Int).toNat (rs.getD ((y.1 : Nat) : Int).toNat ([], [])).2)) (u.2.2.2.2.1 * 1)]) rfl rfl rfl rfl rfl rfl rfl rfl rfl ⟨rfl, rfl, rfl, rfl, rfl⟩ ?_) ?_⟩
  · rw [putG_get (by omega)] at hp
    refine (m1 _).2 ((hfe _).2 ?_)
    split at hp
    · rename_i h
      refine .inr ((n1 _).2 ((memE_one _ _).2 ⟨?_, ?_⟩))
      · show 12800 + r ≤ (p : Int); omega
      · show (p : Int) < 12800 + r + ((rs.getD ((y.1 : Nat) : Int).toNat ([], [])).2.length : Int); omega
    · exact .inl (u3 p hp)
  · repeat' (first
    | (with_reducible first | exact True.intro | apply And.intro | apply If_true | apply If_false | apply If_not)
    | ((with_reducible apply VC.mk); exact vo)
    | ((with_reducible apply If_dec) <;> intro hc <;> (try (exfalso; omega)))
    | ((with_reducible apply If_any) <;> intro hc)
    | ((with_reducible first | apply PF.mk | apply DrawP.mk); (focus kernel_rfl))
    | ((with_reducible apply Same.mk); (focus rfl); (first | exact trivial | exact rfl))
    | (intro cap hcap)
    | ((fail_if_success (with_reducible apply st)); conv => whnf))
  · repeat' (first
    | (with_reducible first | exact True.intro | apply And.intro | apply If_true | apply If_false | apply If_not)
    | ((with_reducible apply VC.mk); exact vo)
    | ((with_reducible apply If_dec) <;> intro hc <;> (try (exfalso; omega)))
    | ((with_reducible apply If_any) <;> intro hc)
    | ((with_reducible first | apply PF.mk | apply DrawP.mk); (focus kernel_rfl))
    | ((with_reducible apply Same.mk); (focus rfl); (first | exact trivial | exact rfl))
    | (intro cap hcap)
    | ((fail_if_success (with_reducible apply st)); conv => whnf))
    all_goals exact VC.mk ⟨rfl, rfl, rfl, hgl, rfl⟩
end Go.Proofs.Ytcfmlnddmpiemaa.Sx

