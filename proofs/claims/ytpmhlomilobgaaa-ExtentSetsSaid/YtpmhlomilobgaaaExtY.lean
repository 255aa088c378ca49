/- How many bytes a set has. Plain lists. -/
import Derived.Test.YtpmhlomilobgaaaExtV
set_option linter.unusedVariables false
set_option linter.unusedSimpArgs false
namespace Go.Proofs.Ytpmhlomilobgaaa.ExtP
open Go.RowKit Go.Proofs.Ytpmhlomilobgaaa.PExt Go.Proofs.YtpmhlomilobgaaaW.PrintWords Go.Proofs.Ytpmhlomilobgaaa.ExtM Go.Proofs.Ytpmhlomilobgaaa.Base

def len (x : S65) : Int := if x.f0 < x.f1 then x.f1 - x.f0 else 0
def tot : List S65 → Int
  | [] => 0
  | x :: r => len x + tot r
theorem tot_append : ∀ (a b : List S65), tot (a ++ b) = tot a + tot b
  | [], b => by simp [tot]
  | x :: a, b => by simp only [List.cons_append, tot, tot_append a b]; omega
theorem tot_perm {a b : List S65} (h : a.Perm b) : tot a = tot b := by
  induction h with
  | nil => rfl
  | cons x _ ih => simp only [tot, ih]
  | swap x y l => simp only [tot]; omega
  | trans _ _ ih1 ih2 => exact ih1.trans ih2
def Disj (x y : S65) : Prop := ∀ q, ¬ (inS x q ∧ inS y q)
theorem Disj.symm {x y : S65} (h : Disj x y) : Disj y x := fun q k => h q ⟨k.2, k.1⟩
def PD (l : List S65) : Prop := l.Pairwise Disj
theorem PD_cons (x : S65) (l : List S65) : PD (x :: l) ↔ (∀ y, y ∈ l → Disj x y) ∧ PD l := List.pairwise_cons
theorem PD_perm {a b : List S65} (h : a.Perm b) : PD a ↔ PD b := h.pairwise_iff (fun h => h.symm)
theorem tot_goM : ∀ (l : List S65) (y : S65), Srt l → y.f0 < y.f1 → (∀ x, x ∈ l → y.f0 ≤ x.f0) → tot (goM y l) ≤ len y + tot l ∧ (tot (goM y l) = len y + tot l ↔ PD (y :: l))
  | [], y, _, hy, _ => by simp [goM, tot, PD]
  | x :: r, y, hs, hy, hl => by
    obtain ⟨h1, h2⟩ := List.pairwise_cons.1 hs
    have hyx := hl x (List.mem_cons_self ..)
    unfold goM
    split
    · rename_i he
      obtain ⟨a, b⟩ := tot_goM r y h2 hy (fun z hz => hl z (List.mem_cons_of_mem _ hz))
      have hx0 : len x = 0 := by unfold len; rw [if_neg (by omega)]
      have hdx : ∀ z, Disj x z := fun z q k => by have := k.1.1; have := k.1.2; omega
      simp only [tot, hx0, Int.zero_add]
      refine ⟨a, b.trans ?_⟩
      rw [PD_cons, PD_cons, PD_cons]
      constructor
      · rintro ⟨k1, k2⟩
        refine ⟨fun z hz => ?_, fun z _ => hdx z, k2⟩
        rcases List.mem_cons.1 hz with rfl | hz
        · exact (hdx y).symm
        · exact k1 z hz
      · rintro ⟨k1, _, k2⟩
        exact ⟨fun z hz => k1 z (List.mem_cons_of_mem _ hz), k2⟩
    · rename_i he
      split
      · rename_i ht
        have hm : mx y.f1 x.f1 = max y.f1 x.f1 := by unfold mx; omega
        obtain ⟨a, b⟩ := tot_goM r ⟨y.f0, mx y.f1 x.f1⟩ h2 (by rw [hm]; show y.f0 < max y.f1 x.f1; omega) (fun z hz => hl z (List.mem_cons_of_mem _ hz))
        have e1 : len (⟨y.f0, mx y.f1 x.f1⟩ : S65) = max y.f1 x.f1 - y.f0 := by
          unfold len
          simp only [hm]
          rw [if_pos (by omega)]
        have e2 : len y = y.f1 - y.f0 := by unfold len; rw [if_pos hy]
        have e3 : len x = x.f1 - x.f0 := by unfold len; rw [if_pos (by omega)]
        rw [e1] at a b
        simp only [tot]
        rw [e2, e3]
        refine ⟨by omega, ?_⟩
        rw [PD_cons, PD_cons]
        by_cases hc : x.f0 = y.f1
        · have hmm : max y.f1 x.f1 = x.f1 := by omega
          rw [hmm] at b
          have e : (tot (goM ⟨y.f0, mx y.f1 x.f1⟩ r) = y.f1 - y.f0 + (x.f1 - x.f0 + tot r)) ↔ (tot (goM ⟨y.f0, mx y.f1 x.f1⟩ r) = x.f1 - y.f0 + tot r) := by omega
          rw [e, b, PD_cons]
          have hd : ∀ z, Disj ⟨y.f0, mx y.f1 x.f1⟩ z ↔ Disj y z ∧ Disj x z := fun z => by
            have hin : ∀ q, inS ⟨y.f0, mx y.f1 x.f1⟩ q ↔ inS y q ∨ inS x q := fun q => by
              simp only [inS, hm, hmm]
              omega
            constructor
            · intro k
              exact ⟨fun q k2 => k q ⟨(hin q).2 (.inl k2.1), k2.2⟩, fun q k2 => k q ⟨(hin q).2 (.inr k2.1), k2.2⟩⟩
            · rintro ⟨k1, k2⟩ q k3
              rcases (hin q).1 k3.1 with k | k
              · exact k1 q ⟨k, k3.2⟩
              · exact k2 q ⟨k, k3.2⟩
          have hyx' : Disj y x := fun q k => by have := k.1.2; have := k.2.1; omega
          constructor
          · rintro ⟨k1, k2⟩
            refine ⟨fun z hz => ?_, fun z hz => ((hd z).1 (k1 z hz)).2, k2⟩
            rcases List.mem_cons.1 hz with rfl | hz
            · exact hyx'
            · exact ((hd z).1 (k1 z hz)).1
          · rintro ⟨k1, k2, k3⟩
            exact ⟨fun z hz => (hd z).2 ⟨k1 z (List.mem_cons_of_mem _ hz), k2 z hz⟩, k3⟩
        · constructor
          · intro k
            omega
          · rintro ⟨k1, _⟩
            exact absurd ⟨⟨hyx, by omega⟩, ⟨Int.le_refl _, by omega⟩⟩ (k1 x (List.mem_cons_self ..) x.f0)
      · rename_i ht
        obtain ⟨a, b⟩ := tot_goM r x h2 (by omega) h1
        simp only [tot]
        refine ⟨by omega, ?_⟩
        have e : (len y + tot (goM x r) = len y + (len x + tot r)) ↔ (tot (goM x r) = len x + tot r) := by omega
        rw [e, b, PD_cons y]
        refine ⟨fun k => ⟨fun z hz q k2 => ?_, k⟩, fun k => k.2⟩
        have k3 := k2.1.2
        have k4 := k2.2.1
        rcases List.mem_cons.1 hz with rfl | hz
        · omega
        · have := h1 z hz; omega
theorem tot_mrg : ∀ (l : List S65), Srt l → tot (mrg l) ≤ tot l ∧ (tot (mrg l) = tot l ↔ PD l)
  | [], _ => by simp [mrg, tot, PD]
  | x :: r, hs => by
    obtain ⟨h1, h2⟩ := List.pairwise_cons.1 hs
    unfold mrg
    split
    · rename_i he
      obtain ⟨a, b⟩ := tot_mrg r h2
      have hx0 : len x = 0 := by unfold len; rw [if_neg (by omega)]
      have hdx : ∀ z, Disj x z := fun z q k => by have := k.1.1; have := k.1.2; omega
      simp only [tot, hx0, Int.zero_add]
      refine ⟨a, b.trans ?_⟩
      rw [PD_cons]
      exact ⟨fun k => ⟨fun z _ => hdx z, k⟩, fun k => k.2⟩
    · rename_i he
      exact tot_goM r x h2 (by omega) h1
theorem tot_normL (l : List S65) : tot (normL l) ≤ tot l ∧ (tot (normL l) = tot l ↔ PD l) := by
  obtain ⟨a, b⟩ := tot_mrg (isrt l) (isrt_srt l)
  rw [tot_perm (isrt_perm l), PD_perm (isrt_perm l)] at *
  exact ⟨a, b⟩
theorem NF.pd {l : List S65} (h : NF l) : PD l := h.2.imp fun {x y} hxy q k => by
  have := k.1.2
  have := k.2.1
  omega
/-- Two sets with no byte in common, together. -/
theorem tot_two {a b : List S65} (ha : NF a) (hb : NF b) (hd : ∀ q, ¬ (mem a q ∧ mem b q)) : tot (normL (a ++ b)) = tot a + tot b := by
  rw [← tot_append]
  refine (tot_normL _).2.2 (List.pairwise_append.2 ⟨NF.pd ha, NF.pd hb, fun x hx y hy q k => hd q ⟨⟨x, hx, k.1⟩, y, hy, k.2⟩⟩)
theorem wr_add (a b : Int) : wrap64 (wrap64 a + wrap64 b) = wrap64 (a + b) := by unfold wrap64; omega
theorem bytes_fold : ∀ (l : List S65) (n : Int), (∀ x, x ∈ l → x.f0 < x.f1) → l.foldl bytesStep (wrap64 n) = wrap64 (n + tot l)
  | [], n, _ => by simp [tot]
  | x :: r, n, h => by
    have hx := h x (List.mem_cons_self ..)
    have e : bytesStep (wrap64 n) x = wrap64 (n + len x) := by
      unfold bytesStep len
      rw [if_pos hx, wr_add]
    rw [List.foldl_cons, e, bytes_fold r _ (fun y hy => h y (List.mem_cons_of_mem _ hy)), tot, Int.add_assoc]
theorem bytesL_nf {l : List S65} (h : NF l) : bytesL l = wrap64 (tot l) := by
  have := bytes_fold l 0 h.1
  rw [Int.zero_add, show wrap64 0 = 0 from by unfold wrap64; omega] at this
  exact this
theorem bytes_ok {l : List S65} (hl : l.length ≤ 1000000) : extent_Set_Bytes.f l = some (wrap64 (tot (normL l))) := by
  show bytesF l = _
  unfold bytesF
  rw [if_pos hl, bytesL_nf (normL_nf l)]
end Go.Proofs.Ytpmhlomilobgaaa.ExtP
