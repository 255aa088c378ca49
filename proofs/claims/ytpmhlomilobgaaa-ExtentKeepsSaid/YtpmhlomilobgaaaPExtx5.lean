/- What the Go functions of this text come to, laid by a program of this session (wip/tools/pp.py) out of the translation: for every input. -/
import Derived.Test.YtpmhlomilobgaaaPExtx0
import Derived.Test.YtpmhlomilobgaaaPExtx4
namespace Go.Proofs.Ytpmhlomilobgaaa.PExt
open Go.RowKit Go.Proofs.YtpmhlomilobgaaaW.PrintWords Go.Proofs.YtpmhlomilobgaaaW.PrintLast Go.Proofs.YtpmhlomilobgaaaW.PrintMore
attribute [local go_sem] max2_int min2_int max_two min_two max_three min_three max_four min_four
set_option linter.unusedVariables false
set_option linter.unusedSimpArgs false
def fettleref03_joined.l0 : Nat → List (S65) → List (S65) → Int → Option ((List (S65)))
 | 0, _, _, _ => none
 | k + 1, x0, x3, x4 => if x4 < (x0.length : Int) then (if (x3.length : Int) > 0 then (if 0 ≤ (wrap64 ((x3.length : Int) - 1)) then (if (wrap64 ((x3.length : Int) - 1)) < (x3.length : Int) then (if 0 ≤ x4 then (if ((rd_T65 x3 (wrap64 ((x3.length : Int) - 1))).f1) = ((rd_T65 x0 x4).f0) then (fettleref03_joined.l0 k x0 (x3.set ((wrap64 ((x3.length : Int) - 1)) : Int).toNat (⟨(rd_T65 x3 (wrap64 ((x3.length : Int) - 1))).f0, (rd_T65 x0 x4).f1⟩ : S65)) (wrap64 (x4 + 1))) else (if x3.length < 8796093022208 then (fettleref03_joined.l0 k x0 (x3 ++ [(⟨(rd_T65 x0 x4).f0, (rd_T65 x0 x4).f1⟩ : S65)]) (wrap64 (x4 + 1))) else (none))) else (none)) else (none)) else (none)) else (if 0 ≤ x4 then (if x3.length < 8796093022208 then (fettleref03_joined.l0 k x0 (x3 ++ [(⟨(rd_T65 x0 x4).f0, (rd_T65 x0 x4).f1⟩ : S65)]) (wrap64 (x4 + 1))) else (none)) else (none))) else (some x3)
def fettleref03_joined.f (k : Nat) (l0 : List (S65)) : Option ((List (S65))) := fettleref03_joined.l0 k l0 ([] : List (S65)) 0
def fettleref03_Norm.l0 : Nat → List (S65) → List Int → List (S65) → Int → Option ((List (S65)))
 | 0, _, _, _, _ => none
 | k + 1, x0, x3, x4, x5 => if (wrap64 (x5 + 1)) < (x3.length : Int) then (if 0 ≤ x5 then (if x5 < (x3.length : Int) then ((fettleref03_Has.f k x0 (rd x3 x5)).bind fun t204 => (if t204 = true then (if 0 ≤ (wrap64 (x5 + 1)) then (if x4.length < 8796093022208 then (fettleref03_Norm.l0 k x0 x3 (x4 ++ [(⟨rd x3 x5, rd x3 (wrap64 (x5 + 1))⟩ : S65)]) (wrap64 (x5 + 1))) else (none)) else (none)) else (fettleref03_Norm.l0 k x0 x3 x4 (wrap64 (x5 + 1))))) else (none)) else (none)) else ((fettleref03_joined.f k x4).bind fun t210 => (some t210))
def fettleref03_Norm.f (k : Nat) (l0 : List (S65)) : Option ((List (S65))) := (fettleref03_marks.f k (([l0] : List (List (S65))))).bind fun t200 => (fettleref03_Norm.l0 k l0 t200 ([] : List (S65)) 0)
def fettlelaw03_light.l0 : Nat → List (S65) → Int → Option (Bool)
 | 0, _, _ => none
 | k + 1, x0, x3 => if x3 < (x0.length : Int) then (if 0 ≤ x3 then (if ((rd_T65 x0 x3).f0) < (-1152921504606846976) then (some false) else (if ((rd_T65 x0 x3).f0) > 1152921504606846976 then (some false) else (if ((rd_T65 x0 x3).f1) < (-1152921504606846976) then (some false) else (if ((rd_T65 x0 x3).f1) > 1152921504606846976 then (some false) else (fettlelaw03_light.l0 k x0 (wrap64 (x3 + 1))))))) else (none)) else (some true)
def fettlelaw03_light.f (k : Nat) (l0 : List (S65)) : Option (Bool) := if (l0.length : Int) > 30 then (some false) else (fettlelaw03_light.l0 k l0 0)
theorem fettlelaw03_light.mono_l : ∀ k, (∀ y0 y1, LeO (fettlelaw03_light.l0 k y0 y1) (fettlelaw03_light.l0 (k + 1) y0 y1))
 | 0 => fun _ _ r h => by simp [fettlelaw03_light.l0] at h
 | k + 1 => by
  have ih0 := fettlelaw03_light.mono_l k
  ·intro y0 y1
   unfold fettlelaw03_light.l0
   repeat' first
   | (with_reducible exact ih0 _ _)
   | (with_reducible exact LeO.refl _)
   | (with_reducible exact LeO.none _)
   | (with_reducible refine LeO.ite ?_ ?_)
   | (with_reducible refine LeO.bind ?_ (fun _ => ?_))
   | exact ih0 _ _
   | exact LeO.none _
   | refine LeO.ite ?_ ?_
   | refine LeO.bind ?_ (fun _ => ?_)
theorem fettlelaw03_light.mono : ∀ a0 k, LeO (fettlelaw03_light.f k a0) (fettlelaw03_light.f (k + 1) a0) := by
 intro a0 k
 have ih0 := fettlelaw03_light.mono_l k
 unfold fettlelaw03_light.f
 repeat' first
   | (with_reducible exact ih0 _ _)
   | (with_reducible exact LeO.refl _)
   | (with_reducible exact LeO.none _)
   | (with_reducible refine LeO.ite ?_ ?_)
   | (with_reducible refine LeO.bind ?_ (fun _ => ?_))
   | exact ih0 _ _
   | exact LeO.none _
   | refine LeO.ite ?_ ?_
   | refine LeO.bind ?_ (fun _ => ?_)
set_option maxHeartbeats 8000000 in
set_option maxRecDepth 100000 in
theorem fettlelaw03_light.calls (k : Nat) (A0 : Option Addr) (c0 : Nat) (l0 : List (S65)) (r : Bool) (w : World) (hr0 : Kd.C k65 w A0 l0.length l0) (hc0 : l0.length ≤ c0) (h : fettlelaw03_light.f k l0 = some r) :
  Calls Try.prog 32 #[.slice A0 l0.length c0] w fun e w' => e = .returned (.bool r) ∧ Drawn0 w w' := by
 have HR0 := Aside0.mk hr0
 have HC0 := Aside0.mk hc0
 clear hr0 hc0
 have H : (if (l0.length : Int) > 30 then (some false) else (fettlelaw03_light.l0 k l0 0)) = some r := h
 clear h
 by_cases c2 : (l0.length : Int) > 30
 ·rw [if_pos c2] at H
  have c2b0 : decide (30 < (l0.length : Int)) = true := decide_eq_true c2
  have c2b1 : decide (30 < l0.length) = true := decide_eq_true (by omega)
  clear c2
  obtain rfl := Option.some.inj H
  go_enter Try.func32, Try.ntmps32
  go_wp2
  go_ret
  exact ⟨by first | rfl | (simp; done) | (simp [*]; done) | (simp [*, Int.tdiv_eq_ediv_of_nonneg]; done), by repeat (first | exact Drawn0.refl _ | apply Drawn0.step)⟩
 ·rw [if_neg c2] at H
  have c2b0 : decide (30 < (l0.length : Int)) = false := decide_eq_false c2
  have c2b1 : decide (30 < l0.length) = false := decide_eq_false (by omega)
  clear c2
  have H' := Aside0.mk H
  clear H
  go_enter Try.func32, Try.ntmps32
  go_wp2
  go_loopg [3] k (fun kq v3 w' => ∃ (x3_1 : Int), v3 = .int .i64 x3_1 ∧ Aside0 (fettlelaw03_light.l0 kq l0 x3_1 = some r) ∧ Aside0 (kq ≤ k) ∧ Drawn0 w w')
  case atStart => exact ⟨(0), (by first | rfl | (simp; done) | (simp [*]; done) | (simp [*, Int.tdiv_eq_ediv_of_nonneg]; done)), H', ⟨Nat.le_refl _⟩, by repeat (first | exact Drawn0.refl _ | apply Drawn0.step)⟩
  case round =>
   clear H'
   try clear c2
   try clear c2b0
   try clear c2b1
   try clear p2
   obtain ⟨x3_1, rfl, HA, HK1, ⟨m1, rfl⟩⟩ := hrel
   cases gk with
   | zero => exact absurd HA.out (by simp [fettlelaw03_light.l0])
   | succ k1 =>
    have H := HA.out
    clear HA
    simp only [fettlelaw03_light.l0] at H
    by_cases c3 : x3_1 < (l0.length : Int)
    ·rw [if_pos c3] at H
     have c3b0 : decide (x3_1 < (l0.length : Int)) = true := decide_eq_true c3
     clear c3
     by_cases c4 : 0 ≤ x3_1
     ·rw [if_pos c4] at H
      have c4b0 : decide (0 ≤ x3_1) = true := decide_eq_true c4
      clear c4
      by_cases c5 : ((rd_T65 l0 x3_1).f0) < (-1152921504606846976)
      ·rw [if_pos c5] at H
       have c5b0 : decide (((rd_T65 l0 x3_1).f0) < (-1152921504606846976)) = true := decide_eq_true c5
       clear c5
       obtain rfl := Option.some.inj H
       have p213 : 0 ≤ (x3_1 : Int) := of_decide_eq_true (by first | (with_reducible assumption) | assumption)
       have q213 : x3_1 < (l0.length : Int) := of_decide_eq_true (by first | (with_reducible assumption) | assumption)
       obtain ⟨ad213, e213, hx213_0, hx213_1⟩ := at_T65 HR0.out x3_1 p213 q213
       cases e213
       replace p213 := eq_true p213
       replace q213 := eq_true q213
       go_wp2
       go_ret
       exact ⟨by first | rfl | (simp; done) | (simp [*]; done) | (simp [*, Int.tdiv_eq_ediv_of_nonneg]; done), by repeat (first | exact Drawn0.refl _ | apply Drawn0.step)⟩
      ·rw [if_neg c5] at H
       have c5b0 : decide (((rd_T65 l0 x3_1).f0) < (-1152921504606846976)) = false := decide_eq_false c5
       clear c5
       by_cases c6 : ((rd_T65 l0 x3_1).f0) > 1152921504606846976
       ·rw [if_pos c6] at H
        have c6b0 : decide (1152921504606846976 < ((rd_T65 l0 x3_1).f0)) = true := decide_eq_true c6
        clear c6
        obtain rfl := Option.some.inj H
        have p213 : 0 ≤ (x3_1 : Int) := of_decide_eq_true (by first | (with_reducible assumption) | assumption)
        have q213 : x3_1 < (l0.length : Int) := of_decide_eq_true (by first | (with_reducible assumption) | assumption)
        obtain ⟨ad213, e213, hx213_0, hx213_1⟩ := at_T65 HR0.out x3_1 p213 q213
        cases e213
        replace p213 := eq_true p213
        replace q213 := eq_true q213
        have p214 : 0 ≤ (x3_1 : Int) := of_decide_eq_true (by first | (with_reducible assumption) | assumption)
        have q214 : x3_1 < (l0.length : Int) := of_decide_eq_true (by first | (with_reducible assumption) | assumption)
        obtain ⟨ad214, e214, hx214_0, hx214_1⟩ := at_T65 HR0.out x3_1 p214 q214
        obtain rfl : ad213 = ad214 := (by injection e214)
        replace p214 := eq_true p214
        replace q214 := eq_true q214
        go_wp2
        go_ret
        exact ⟨by first | rfl | (simp; done) | (simp [*]; done) | (simp [*, Int.tdiv_eq_ediv_of_nonneg]; done), by repeat (first | exact Drawn0.refl _ | apply Drawn0.step)⟩
       ·rw [if_neg c6] at H
        have c6b0 : decide (1152921504606846976 < ((rd_T65 l0 x3_1).f0)) = false := decide_eq_false c6
        clear c6
        by_cases c7 : ((rd_T65 l0 x3_1).f1) < (-1152921504606846976)
        ·rw [if_pos c7] at H
         have c7b0 : decide (((rd_T65 l0 x3_1).f1) < (-1152921504606846976)) = true := decide_eq_true c7
         clear c7
         obtain rfl := Option.some.inj H
         have p213 : 0 ≤ (x3_1 : Int) := of_decide_eq_true (by first | (with_reducible assumption) | assumption)
         have q213 : x3_1 < (l0.length : Int) := of_decide_eq_true (by first | (with_reducible assumption) | assumption)
         obtain ⟨ad213, e213, hx213_0, hx213_1⟩ := at_T65 HR0.out x3_1 p213 q213
         cases e213
         replace p213 := eq_true p213
         replace q213 := eq_true q213
         have p214 : 0 ≤ (x3_1 : Int) := of_decide_eq_true (by first | (with_reducible assumption) | assumption)
         have q214 : x3_1 < (l0.length : Int) := of_decide_eq_true (by first | (with_reducible assumption) | assumption)
         obtain ⟨ad214, e214, hx214_0, hx214_1⟩ := at_T65 HR0.out x3_1 p214 q214
         obtain rfl : ad213 = ad214 := (by injection e214)
         replace p214 := eq_true p214
         replace q214 := eq_true q214
         have p215 : 0 ≤ (x3_1 : Int) := of_decide_eq_true (by first | (with_reducible assumption) | assumption)
         have q215 : x3_1 < (l0.length : Int) := of_decide_eq_true (by first | (with_reducible assumption) | assumption)
         obtain ⟨ad215, e215, hx215_0, hx215_1⟩ := at_T65 HR0.out x3_1 p215 q215
         obtain rfl : ad213 = ad215 := (by injection e215)
         replace p215 := eq_true p215
         replace q215 := eq_true q215
         go_wp2
         go_ret
         exact ⟨by first | rfl | (simp; done) | (simp [*]; done) | (simp [*, Int.tdiv_eq_ediv_of_nonneg]; done), by repeat (first | exact Drawn0.refl _ | apply Drawn0.step)⟩
        ·rw [if_neg c7] at H
         have c7b0 : decide (((rd_T65 l0 x3_1).f1) < (-1152921504606846976)) = false := decide_eq_false c7
         clear c7
         by_cases c8 : ((rd_T65 l0 x3_1).f1) > 1152921504606846976
         ·rw [if_pos c8] at H
          have c8b0 : decide (1152921504606846976 < ((rd_T65 l0 x3_1).f1)) = true := decide_eq_true c8
          clear c8
          obtain rfl := Option.some.inj H
          have p213 : 0 ≤ (x3_1 : Int) := of_decide_eq_true (by first | (with_reducible assumption) | assumption)
          have q213 : x3_1 < (l0.length : Int) := of_decide_eq_true (by first | (with_reducible assumption) | assumption)
          obtain ⟨ad213, e213, hx213_0, hx213_1⟩ := at_T65 HR0.out x3_1 p213 q213
          cases e213
          replace p213 := eq_true p213
          replace q213 := eq_true q213
          have p214 : 0 ≤ (x3_1 : Int) := of_decide_eq_true (by first | (with_reducible assumption) | assumption)
          have q214 : x3_1 < (l0.length : Int) := of_decide_eq_true (by first | (with_reducible assumption) | assumption)
          obtain ⟨ad214, e214, hx214_0, hx214_1⟩ := at_T65 HR0.out x3_1 p214 q214
          obtain rfl : ad213 = ad214 := (by injection e214)
          replace p214 := eq_true p214
          replace q214 := eq_true q214
          have p215 : 0 ≤ (x3_1 : Int) := of_decide_eq_true (by first | (with_reducible assumption) | assumption)
          have q215 : x3_1 < (l0.length : Int) := of_decide_eq_true (by first | (with_reducible assumption) | assumption)
          obtain ⟨ad215, e215, hx215_0, hx215_1⟩ := at_T65 HR0.out x3_1 p215 q215
          obtain rfl : ad213 = ad215 := (by injection e215)
          replace p215 := eq_true p215
          replace q215 := eq_true q215
          have p216 : 0 ≤ (x3_1 : Int) := of_decide_eq_true (by first | (with_reducible assumption) | assumption)
          have q216 : x3_1 < (l0.length : Int) := of_decide_eq_true (by first | (with_reducible assumption) | assumption)
          obtain ⟨ad216, e216, hx216_0, hx216_1⟩ := at_T65 HR0.out x3_1 p216 q216
          obtain rfl : ad213 = ad216 := (by injection e216)
          replace p216 := eq_true p216
          replace q216 := eq_true q216
          go_wp2
          go_ret
          exact ⟨by first | rfl | (simp; done) | (simp [*]; done) | (simp [*, Int.tdiv_eq_ediv_of_nonneg]; done), by repeat (first | exact Drawn0.refl _ | apply Drawn0.step)⟩
         ·rw [if_neg c8] at H
          have c8b0 : decide (1152921504606846976 < ((rd_T65 l0 x3_1).f1)) = false := decide_eq_false c8
          clear c8
          have H' := Aside0.mk H
          clear H
          have p213 : 0 ≤ (x3_1 : Int) := of_decide_eq_true (by first | (with_reducible assumption) | assumption)
          have q213 : x3_1 < (l0.length : Int) := of_decide_eq_true (by first | (with_reducible assumption) | assumption)
          obtain ⟨ad213, e213, hx213_0, hx213_1⟩ := at_T65 HR0.out x3_1 p213 q213
          cases e213
          replace p213 := eq_true p213
          replace q213 := eq_true q213
          have p214 : 0 ≤ (x3_1 : Int) := of_decide_eq_true (by first | (with_reducible assumption) | assumption)
          have q214 : x3_1 < (l0.length : Int) := of_decide_eq_true (by first | (with_reducible assumption) | assumption)
          obtain ⟨ad214, e214, hx214_0, hx214_1⟩ := at_T65 HR0.out x3_1 p214 q214
          obtain rfl : ad213 = ad214 := (by injection e214)
          replace p214 := eq_true p214
          replace q214 := eq_true q214
          have p215 : 0 ≤ (x3_1 : Int) := of_decide_eq_true (by first | (with_reducible assumption) | assumption)
          have q215 : x3_1 < (l0.length : Int) := of_decide_eq_true (by first | (with_reducible assumption) | assumption)
          obtain ⟨ad215, e215, hx215_0, hx215_1⟩ := at_T65 HR0.out x3_1 p215 q215
          obtain rfl : ad213 = ad215 := (by injection e215)
          replace p215 := eq_true p215
          replace q215 := eq_true q215
          have p216 : 0 ≤ (x3_1 : Int) := of_decide_eq_true (by first | (with_reducible assumption) | assumption)
          have q216 : x3_1 < (l0.length : Int) := of_decide_eq_true (by first | (with_reducible assumption) | assumption)
          obtain ⟨ad216, e216, hx216_0, hx216_1⟩ := at_T65 HR0.out x3_1 p216 q216
          obtain rfl : ad213 = ad216 := (by injection e216)
          replace p216 := eq_true p216
          replace q216 := eq_true q216
          go_wp2
          go_roundg k1
          case measure => have := HK1.out; omega
          case rel => exact ⟨(wrap64 (x3_1 + 1)), (by first | rfl | (simp; done) | (simp [*]; done) | (simp [*, Int.tdiv_eq_ediv_of_nonneg]; done)), H', ⟨by have := HK1.out; omega⟩, by repeat (first | exact Drawn0.refl _ | apply Drawn0.step)⟩
     ·rw [if_neg c4] at H
      exact absurd H (by simp)
    ·rw [if_neg c3] at H
     have c3b0 : decide (x3_1 < (l0.length : Int)) = false := decide_eq_false c3
     clear c3
     obtain rfl := Option.some.inj H
     go_wp2
     go_ret
     exact ⟨by first | rfl | (simp; done) | (simp [*]; done) | (simp [*, Int.tdiv_eq_ediv_of_nonneg]; done), by repeat (first | exact Drawn0.refl _ | apply Drawn0.step)⟩
end Go.Proofs.Ytpmhlomilobgaaa.PExt
