import Derived.Test.YtjccknmgmommcaaSxX3
import Derived.Test.YtjccknmgmommcaaSxM4
import Derived.Test.YtjccknmgmommcaaSxP4
set_option linter.unusedVariables false
set_option linter.unusedSimpArgs false
set_option maxRecDepth 10000
namespace Go.Proofs.Ytjccknmgmommcaa.Sx
/-! ### What is seen behind a Put, plain -/
theorem lkS_upS (n m : Int) (v : List Int) : ∀ (d : List (Int × List Int)), lkS n (upS m v d) = if n = m then some v else lkS n d
  | [] => by
    show (if m = n then _ else _) = _
    by_cases h : n = m
    · rw [if_pos h, if_pos h.symm]
    · rw [if_neg h, if_neg (fun e => h e.symm)]
  | (a, u) :: r => by
    unfold upS
    by_cases h : a = m
    · rw [if_pos h]
      show (if a = n then _ else _) = _
      subst h
      by_cases h2 : n = a
      · rw [if_pos h2, if_pos h2.symm]
      · rw [if_neg h2, if_neg (fun e => h2 e.symm)]
        show _ = (if a = n then _ else _)
        rw [if_neg (fun e => h2 e.symm)]
    · rw [if_neg h]
      show (if a = n then _ else _) = _
      by_cases h2 : a = n
      · rw [if_pos h2, if_neg (by omega)]
        show _ = (if a = n then _ else _)
        rw [if_pos h2]
      · rw [if_neg h2, lkS_upS n m v r]
        show _ = (if n = m then _ else (if a = n then _ else _))
        rw [if_neg h2]
theorem wr1_sec (t : TR) (now : List Int) (a : Nat) (xs : List Int) (n : Nat) : (t.wr1 now a xs).sec now n = if n = a / 512 then putG (t.sec now (a / 512 : Nat)) (a % 512) xs else t.sec now n := by
  unfold TR.sec
  show (match lkS (n : Int) (upS _ _ _) with | some l => l | none => _) = _
  rw [lkS_upS]
  by_cases h : n = a / 512
  · subst h
    rw [if_pos rfl, if_pos rfl]
    rfl
  · rw [if_neg h, if_neg (by omega)]
    rfl
theorem wr1_V {t : TR} (ht : t.Ok) (now : List Int) (a : Nat) (xs : List Int) (hx : a % 512 + xs.length ≤ 512) (i : Nat) : (t.wr1 now a xs).V now i = if a ≤ i ∧ i < a + xs.length then xs.getD (i - a) 0 else t.V now i := by
  unfold TR.V
  rw [wr1_sec]
  have hl := ht.sec_length now (a / 512 : Nat) (by omega)
  by_cases h : i / 512 = a / 512
  · rw [if_pos h, putG_get (by omega)]
    by_cases h2 : a ≤ i ∧ i < a + xs.length
    · rw [if_pos h2, if_pos (by omega), show i % 512 - a % 512 = i - a by omega]
    · rw [if_neg h2, if_neg (by omega), h]
  · rw [if_neg h, if_neg (by omega)]
theorem putF_V : ∀ (f : Nat) (t : TR) (now : List Int) (a : Nat) (p : List Int), t.Ok → p.length ≤ f → (TR.putF f t now a p).Ok ∧ (TR.putF f t now a p).fresh = t.fresh ∧ (TR.putF f t now a p).over = t.over ∧ (TR.putF f t now a p).cap = t.cap ∧ ∀ i, (TR.putF f t now a p).V now i = if a ≤ i ∧ i < a + p.length then p.getD (i - a) 0 else t.V now i
  | 0, t, now, a, p, h, hp => ⟨h, rfl, rfl, rfl, fun i => by rw [if_neg (by omega)]; rfl⟩
  | f + 1, t, now, a, p, h, hp => by
    by_cases h0 : p.length = 0
    · rw [putF_nil _ _ _ _ _ h0]
      exact ⟨h, rfl, rfl, rfl, fun i => by rw [if_neg (by omega)]⟩
    · have e : TR.putF (f + 1) t now a p = TR.putF f (t.wr1 now a (p.take (min p.length (512 - a % 512)))) now (a + min p.length (512 - a % 512)) (p.drop (min p.length (512 - a % 512))) := by
        show (if _ then _ else _) = _; rw [if_neg h0]
      rw [e]
      generalize hk : min p.length (512 - a % 512) = k
      have hkl : (p.take k).length = k := by rw [List.length_take]; omega
      have hdl : (p.drop k).length = p.length - k := List.length_drop ..
      have ho := h.wr1 now a (p.take k) (by omega)
      obtain ⟨i1, i2, i3, i4, i5⟩ := putF_V f (t.wr1 now a (p.take k)) now (a + k) (p.drop k) ho (by omega)
      refine ⟨i1, i2, i3, i4, fun i => ?_⟩
      rw [i5, wr1_V h now a _ (by omega), hkl, hdl]
      by_cases c1 : a + k ≤ i ∧ i < a + k + (p.length - k)
      · rw [if_pos c1, if_pos (by omega)]
        rw [List.getD_eq_getElem?_getD, List.getElem?_drop, List.getD_eq_getElem?_getD, show k + (i - (a + k)) = i - a by omega]
      · rw [if_neg c1]
        by_cases c2 : a ≤ i ∧ i < a + k
        · rw [if_pos c2, if_pos (by omega), List.getD_eq_getElem?_getD, List.getElem?_take, if_pos (by omega), List.getD_eq_getElem?_getD]
        · rw [if_neg c2, if_neg (by omega)]
theorem put_V {t : TR} (h : t.Ok) (now : List Int) (a : Nat) (p : List Int) : (t.put now a p).Ok ∧ (t.put now a p).fresh = t.fresh ∧ (t.put now a p).over = t.over ∧ (t.put now a p).cap = t.cap ∧ ∀ i, (t.put now a p).V now i = if a ≤ i ∧ i < a + p.length then p.getD (i - a) 0 else t.V now i := putF_V _ t now a p h (Nat.le_refl _)
theorem TR.rd_get (t : TR) (now : List Int) (a n i : Nat) (h : i < n) : (t.rd now a n).getD i 0 = t.V now (a + i) := by
  unfold TR.rd
  rw [List.getD_eq_getElem?_getD, List.getElem?_map, List.getElem?_range h]
  rfl
theorem rd_congr {t t' : TR} {now now' : List Int} {a n : Nat} (h : ∀ i, i < n → t.V now (a + i) = t'.V now' (a + i)) : t.rd now a n = t'.rd now' a n := by
  unfold TR.rd
  exact List.map_congr_left (fun i hi => h i (List.mem_range.1 hi))
/-- What is put is read. -/
theorem put_rd {t : TR} (h : t.Ok) (now : List Int) (a : Nat) (p : List Int) : (t.put now a p).rd now a p.length = p := by
  refine ext_getD (by rw [TR.rd_length]) (fun i hi => ?_)
  rw [TR.rd_length] at hi
  rw [TR.rd_get _ _ _ _ _ hi, (put_V h now a p).2.2.2.2, if_pos ⟨by omega, by omega⟩, show a + i - a = i by omega]
/-- All bytes are bytes. -/
def TR.B (t : TR) (now : List Int) : Prop := ∀ i, 0 ≤ t.V now i ∧ t.V now i < 256
theorem TR.B.rd {t : TR} {now : List Int} (h : t.B now) (a n : Nat) : B8 (t.rd now a n) := by
  intro x hx
  unfold TR.rd at hx
  rw [List.mem_map] at hx
  obtain ⟨i, -, rfl⟩ := hx
  exact h _
theorem TR.B.put {t : TR} {now : List Int} (h : t.B now) (ho : t.Ok) (a : Nat) {p : List Int} (hp : B8 p) : (t.put now a p).B now := by
  intro i
  rw [(put_V ho now a p).2.2.2.2]
  split
  · exact hp.getD _
  · exact h i
theorem zero_V (now : List Int) (i : Nat) : TR.zero.V now i = now.getD i 0 := by
  unfold TR.V TR.sec
  show (secF now ((i / 512 : Nat) : Int)).getD (i % 512) 0 = _
  unfold secF padS
  have e : (512 * ((i / 512 : Nat) : Int)).toNat = 512 * (i / 512) := by omega
  rw [e]
  by_cases h : i % 512 < ((now.drop (512 * (i / 512))).take 512).length
  · rw [List.getD_eq_getElem?_getD, List.getElem?_append_left h, List.getElem?_take, if_pos (by omega), List.getElem?_drop, List.getD_eq_getElem?_getD, show 512 * (i / 512) + i % 512 = i by omega]
  · rw [List.getD_eq_getElem?_getD, List.getElem?_append_right (by omega), List.getElem?_replicate]
    rw [List.length_take, List.length_drop] at h
    rw [getD_of_le (l := now) (by omega)]
    split <;> rfl
end Go.Proofs.Ytjccknmgmommcaa.Sx

