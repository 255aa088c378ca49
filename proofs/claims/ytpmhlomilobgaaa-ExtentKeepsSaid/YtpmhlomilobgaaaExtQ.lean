/- The reference's one form is the one form. Plain lists. -/
import Derived.Test.YtpmhlomilobgaaaExtP
set_option linter.unusedVariables false
set_option linter.unusedSimpArgs false
namespace Go.Proofs.Ytpmhlomilobgaaa.ExtP
open Go.RowKit Go.Proofs.Ytpmhlomilobgaaa.PExt Go.Proofs.YtpmhlomilobgaaaW.PrintWords Go.Proofs.Ytpmhlomilobgaaa.ExtM Go.Proofs.Ytpmhlomilobgaaa.Base

/-! ### marks -/
def insP (m : List Int) (x : S65) : List Int := insU x.f1 (insU x.f0 m)
theorem insP_length (m : List Int) (x : S65) : (insP m x).length ≤ m.length + 2 := by
  have h1 := insU_length x.f0 m
  have h2 := insU_length x.f1 (insU x.f0 m)
  unfold insP
  omega
theorem insP_rise {m : List Int} (x : S65) (h : Rise m) : Rise (insP m x) := insU_rise _ (insU_rise _ h)
theorem insP_mem (m : List Int) (x : S65) (q : Int) : q ∈ insP m x ↔ q = x.f0 ∨ q = x.f1 ∨ q ∈ m := by
  unfold insP
  rw [insU_mem, insU_mem]
  constructor
  · rintro (h | h | h)
    · exact .inr (.inl h)
    · exact .inl h
    · exact .inr (.inr h)
  · rintro (h | h | h)
    · exact .inr (.inl h)
    · exact .inl h
    · exact .inr (.inr h)
theorem fold_rise : ∀ (X : List S65) {m : List Int}, Rise m → Rise (X.foldl insP m)
  | [], _, h => h
  | x :: X, _, h => fold_rise X (insP_rise x h)
theorem fold_mem : ∀ (X : List S65) (m : List Int) (q : Int), q ∈ X.foldl insP m ↔ (∃ x, x ∈ X ∧ (q = x.f0 ∨ q = x.f1)) ∨ q ∈ m
  | [], m, q => by simp
  | x :: X, m, q => by
    rw [List.foldl_cons, fold_mem X, insP_mem]
    constructor
    · rintro (⟨y, hy, h⟩ | h | h | h)
      · exact .inl ⟨y, List.mem_cons_of_mem _ hy, h⟩
      · exact .inl ⟨x, List.mem_cons_self .., .inl h⟩
      · exact .inl ⟨x, List.mem_cons_self .., .inr h⟩
      · exact .inr h
    · rintro (⟨y, hy, h⟩ | h)
      · rcases List.mem_cons.1 hy with rfl | hy
        · rcases h with h | h
          · exact .inr (.inl h)
          · exact .inr (.inr (.inl h))
        · exact .inl ⟨y, hy, h⟩
      · exact .inr (.inr (.inr h))
theorem fold_length : ∀ (X : List S65) (m : List Int), (X.foldl insP m).length ≤ m.length + 2 * X.length
  | [], m => by simp
  | x :: X, m => by
    have h1 := fold_length X (insP m x)
    have h2 := insP_length m x
    simp only [List.foldl_cons, List.length_cons]
    omega
theorem rdL (ls : List (List S65)) (i : Nat) (h : i < ls.length) : rd_L2 ls (i : Int) = ls[i] := by simp [rd_L2, h]
theorem marks_l (ls : List (List S65)) (T : Nat) (hT : T ≤ 100000) (hls : ls.length ≤ 100000) (hsz : ∀ s, s ∈ ls → s.length ≤ 100000) : ∀ k,
    (∀ (m : List Int) (i : Nat), i ≤ ls.length → m.length + 2 * (ls.drop i).flatten.length ≤ 2 * T → (ls.drop i).flatten.length + 2 * (ls.length - i) + 1 + 4 * T < k → fettleref03_marks.l0 k ls m (i : Int) = some ((ls.drop i).flatten.foldl insP m)) ∧
    (∀ (m : List Int) (i j : Nat) (hi : i < ls.length), j ≤ ls[i].length → m.length + 2 * ((ls[i].drop j).length + (ls.drop (i + 1)).flatten.length) ≤ 2 * T → (ls[i].length - j) + (ls.drop (i + 1)).flatten.length + 2 * (ls.length - i) + 4 * T < k → fettleref03_marks.l1 k ls m (i : Int) (j : Int) = some ((ls[i].drop j ++ (ls.drop (i + 1)).flatten).foldl insP m))
  | 0 => ⟨fun _ _ _ _ h => by omega, fun _ _ _ _ _ _ h => by omega⟩
  | k + 1 => by
    obtain ⟨ih0, ih1⟩ := marks_l ls T hT hls hsz k
    constructor
    · intro m i hi hm hk
      simp only [fettleref03_marks.l0]
      by_cases hlt : i < ls.length
      · rw [if_pos (by omega)]
        have e : (ls.drop i).flatten = ls[i] ++ (ls.drop (i + 1)).flatten := by rw [List.drop_eq_getElem_cons hlt, List.flatten_cons]
        rw [e, List.length_append] at hm hk
        have := ih1 m i 0 hlt (Nat.zero_le _) (by simpa using hm) (by omega)
        rw [e]
        simpa using this
      · rw [if_neg (by omega), List.drop_of_length_le (by omega)]
        rfl
    · intro m i j hi hj hm hk
      simp only [fettleref03_marks.l1]
      have hs := hsz ls[i] (List.getElem_mem hi)
      rw [if_pos (by omega), if_pos (by omega), rdL ls i hi]
      by_cases hlt : j < ls[i].length
      · have hd : ls[i].drop j = ls[i][j] :: ls[i].drop (j + 1) := List.drop_eq_getElem_cons hlt
        have hdl : (ls[i].drop j).length = ls[i].length - j := List.length_drop ..
        rw [hdl] at hm
        have h1 := insU_length ls[i][j].f0 m
        rw [if_pos (by omega), if_pos (by omega), rdT _ j hlt, put_ok _ (by omega) (by omega), obind, put_ok _ (by omega) (by omega), obind, w1 j (by omega)]
        have h2 := insP_length m ls[i][j]
        have := ih1 (insP m ls[i][j]) i (j + 1) hi (by omega) (by rw [List.length_drop]; omega) (by omega)
        rw [hd]
        exact this
      · rw [if_neg (by omega), w1 i (by omega), List.drop_of_length_le (by omega)]
        have := ih0 m (i + 1) (by omega) (by omega) (by omega)
        simpa using this
def marksL (ls : List (List S65)) : List Int := ls.flatten.foldl insP []
theorem marks_ok {ls : List (List S65)} {k : Nat} (hT : ls.flatten.length ≤ 100000) (hls : ls.length ≤ 100000) (hsz : ∀ s, s ∈ ls → s.length ≤ 100000) (hk : 5 * ls.flatten.length + 2 * ls.length + 1 < k) : fettleref03_marks.f k ls = some (marksL ls) := by
  have := (marks_l ls ls.flatten.length hT hls hsz k).1 [] 0 (Nat.zero_le _) (by simp) (by rw [List.drop_zero]; omega)
  simpa [fettleref03_marks.f, marksL] using this

/-! ### joined -/
def jn (y : S65) : List S65 → List S65
  | [] => [y]
  | x :: r => if y.f1 = x.f0 then jn ⟨y.f0, x.f1⟩ r else y :: jn x r
def joinL : List S65 → List S65
  | [] => []
  | x :: r => jn x r
theorem joined_A (l : List S65) (hl : l.length < 8796093022208) : ∀ (k : Nat) (init : List S65) (y : S65) (i : Nat), i ≤ l.length → init.length + 1 + (l.length - i) < 8796093022208 → l.length - i < k →
    fettleref03_joined.l0 k l (init ++ [y]) (i : Int) = some (init ++ jn y (l.drop i))
  | 0, init, y, i, hi, hb, h => by omega
  | k + 1, init, y, i, hi, hb, h => by
    simp only [fettleref03_joined.l0]
    by_cases hlt : i < l.length
    · have hL : ((init ++ [y]).length : Int) = (init.length : Int) + 1 := by simp
      have w2 : wrap64 (((init ++ [y]).length : Int) - 1) = (init.length : Int) := by rw [hL]; unfold wrap64; omega
      have hy : rd_T65 (init ++ [y]) (init.length : Int) = y := by simp [rd_T65]
      have hst : ∀ z : S65, (init ++ [y]).set (init.length : Int).toNat z = init ++ [z] := fun z => by simp
      rw [if_pos (by omega), if_pos (by omega), w2, if_pos (by omega), if_pos (by omega), if_pos (by omega), hy, rdT l i hlt, w1 i (by omega), List.drop_eq_getElem_cons hlt, jn]
      split
      · rw [hst]
        exact joined_A l hl k init _ (i + 1) (by omega) (by omega) (by omega)
      · rw [if_pos (by simp; omega)]
        have := joined_A l hl k (init ++ [y]) l[i] (i + 1) (by omega) (by simp; omega) (by omega)
        exact this.trans (by simp)
    · rw [if_neg (by omega), List.drop_of_length_le (by omega)]
      simp [jn]
theorem joined_ok {l : List S65} {k : Nat} (hl : l.length < 8796093022208) (hk : l.length < k) : fettleref03_joined.f k l = some (joinL l) := by
  unfold fettleref03_joined.f
  rcases l with _ | ⟨x, r⟩
  · obtain ⟨k, rfl⟩ : ∃ m, k = m + 1 := ⟨k - 1, by simp at hk; omega⟩
    rfl
  · obtain ⟨k, rfl⟩ : ∃ m, k = m + 1 := ⟨k - 1, by simp at hk; omega⟩
    simp only [fettleref03_joined.l0]
    have hr : rd_T65 (x :: r) 0 = x := by simp [rd_T65]
    rw [if_pos (by simp), if_neg (by simp), if_pos (by omega), if_pos (by simp), hr, show wrap64 ((0 : Int) + 1) = ((1 : Nat) : Int) from by unfold wrap64; omega]
    have := joined_A (x :: r) hl k [] x 1 (by simp) (by simp at hl ⊢; omega) (by simp at hk ⊢; omega)
    exact this
/-- Parts that rise, none empty, some touching. -/
def SF (l : List S65) : Prop := (∀ x, x ∈ l → x.f0 < x.f1) ∧ l.Pairwise fun x y => x.f1 ≤ y.f0
theorem jn_ok : ∀ (l : List S65) (y : S65), SF (y :: l) → NF (jn y l) ∧ (∀ p, mem (jn y l) p ↔ inS y p ∨ mem l p) ∧ (∀ z, z ∈ jn y l → y.f0 ≤ z.f0)
  | [], y, h => by
    refine ⟨NF.nil.cons (h.1 y (List.mem_cons_self ..)) (by simp), fun p => by simp [jn], fun z hz => ?_⟩
    have : z = y := by simpa [jn] using hz
    rw [this]
    exact Int.le_refl _
  | x :: r, y, h => by
    have hy := h.1 y (List.mem_cons_self ..)
    have hx := h.1 x (by simp)
    obtain ⟨h1, h2⟩ := List.pairwise_cons.1 h.2
    obtain ⟨h3, h4⟩ := List.pairwise_cons.1 h2
    have hyx := h1 x (List.mem_cons_self ..)
    unfold jn
    split
    · rename_i he
      obtain ⟨a, b, c⟩ := jn_ok r ⟨y.f0, x.f1⟩ ⟨fun z hz => by
        rcases List.mem_cons.1 hz with rfl | hz
        · show y.f0 < x.f1
          omega
        · exact h.1 z (by simp [hz]), List.pairwise_cons.2 ⟨fun z hz => h3 z hz, h4⟩⟩
      refine ⟨a, fun p => ?_, c⟩
      rw [b p, mem_cons]
      constructor
      · rintro (k | k)
        · by_cases hp : p < y.f1
          · exact .inl ⟨k.1, hp⟩
          · exact .inr (.inl ⟨by omega, k.2⟩)
        · exact .inr (.inr k)
      · rintro (k | k | k)
        · exact .inl ⟨k.1, by have := k.2; show p < x.f1; omega⟩
        · exact .inl ⟨by have := k.1; show y.f0 ≤ p; omega, k.2⟩
        · exact .inr k
    · rename_i he
      obtain ⟨a, b, c⟩ := jn_ok r x ⟨fun z hz => h.1 z (List.mem_cons_of_mem _ hz), h2⟩
      refine ⟨a.cons hy (fun z hz => by have := c z hz; omega), fun p => ?_, fun z hz => ?_⟩
      · rw [mem_cons, b p, mem_cons]
      · rcases List.mem_cons.1 hz with rfl | hz
        · exact Int.le_refl _
        · have := c z hz; omega
theorem joinL_ok {l : List S65} (h : SF l) : NF (joinL l) ∧ ∀ p, mem (joinL l) p ↔ mem l p := by
  rcases l with _ | ⟨x, r⟩
  · exact ⟨NF.nil, fun p => Iff.rfl⟩
  · obtain ⟨a, b, _⟩ := jn_ok r x h
    exact ⟨a, fun p => by rw [joinL, b p, mem_cons]⟩

/-! ### what stands between two marks -/
def selP (P : Int → Bool) : List Int → List S65
  | [] => []
  | [_] => []
  | a :: b :: r => if P a then ⟨a, b⟩ :: selP P (b :: r) else selP P (b :: r)
theorem selP_length (P : Int → Bool) : ∀ (m : List Int), (selP P m).length ≤ m.length
  | [] => by simp [selP]
  | [_] => by simp [selP]
  | a :: b :: r => by
    have := selP_length P (b :: r)
    unfold selP
    split <;> simp at * <;> omega
theorem selP_low (P : Int → Bool) : ∀ (m : List Int) (a : Int), Rise (a :: m) → ∀ x, x ∈ selP P (a :: m) → a ≤ x.f0
  | [], a, _, x, hx => by simp [selP] at hx
  | b :: r, a, h, x, hx => by
    have hab := (List.pairwise_cons.1 h).1 b (List.mem_cons_self ..)
    have ih := selP_low P r b (List.pairwise_cons.1 h).2
    unfold selP at hx
    split at hx
    · rcases List.mem_cons.1 hx with rfl | hx
      · exact Int.le_refl _
      · have := ih x hx; omega
    · have := ih x hx; omega
theorem selP_sf (P : Int → Bool) : ∀ (m : List Int), Rise m → SF (selP P m)
  | [], _ => ⟨by simp [selP], List.Pairwise.nil⟩
  | [_], _ => ⟨by simp [selP], List.Pairwise.nil⟩
  | a :: b :: r, h => by
    have hab := (List.pairwise_cons.1 h).1 b (List.mem_cons_self ..)
    obtain ⟨ih1, ih2⟩ := selP_sf P (b :: r) (List.pairwise_cons.1 h).2
    unfold selP
    split
    · refine ⟨fun x hx => ?_, List.pairwise_cons.2 ⟨fun z hz => selP_low P r b (List.pairwise_cons.1 h).2 z hz, ih2⟩⟩
      rcases List.mem_cons.1 hx with rfl | hx
      · exact hab
      · exact ih1 x hx
    · exact ⟨ih1, ih2⟩
/-- P is alike between two marks. -/
def Alike (P : Int → Bool) (m : List Int) : Prop := ∀ q s, s ∈ m → s ≤ q → (∀ t, t ∈ m → ¬ (s < t ∧ t ≤ q)) → P q = P s
theorem selP_mem (P : Int → Bool) : ∀ (r : List Int) (a : Int), Rise (a :: r) → Alike P (a :: r) → ∀ q, mem (selP P (a :: r)) q ↔ a ≤ q ∧ (∃ t, t ∈ r ∧ q < t) ∧ P q = true
  | [], a, _, _, q => by simp [selP]
  | b :: r, a, h, hA, q => by
    obtain ⟨h1, h2⟩ := List.pairwise_cons.1 h
    have hab := h1 b (List.mem_cons_self ..)
    have hbr := (List.pairwise_cons.1 h2).1
    have hA2 : Alike P (b :: r) := fun q s hs hq ht => hA q s (List.mem_cons_of_mem _ hs) hq (fun t hm hc => by
      rcases List.mem_cons.1 hm with rfl | hm
      · have := h1 s hs; omega
      · exact ht t hm hc)
    have ih := selP_mem P r b h2 hA2 q
    have hin : a ≤ q → q < b → P q = P a := fun k1 k2 => hA q a (List.mem_cons_self ..) k1 (fun t hm hc => by
      rcases List.mem_cons.1 hm with rfl | hm
      · omega
      · rcases List.mem_cons.1 hm with rfl | hm
        · omega
        · have := hbr t hm; omega)
    have hsplit : (a ≤ q ∧ (∃ t, t ∈ b :: r ∧ q < t) ∧ P q = true) ↔ ((a ≤ q ∧ q < b ∧ P q = true) ∨ (b ≤ q ∧ (∃ t, t ∈ r ∧ q < t) ∧ P q = true)) := by
      constructor
      · rintro ⟨k1, ⟨t, k2, k3⟩, k4⟩
        by_cases k : q < b
        · exact .inl ⟨k1, k, k4⟩
        · refine .inr ⟨by omega, ?_, k4⟩
          rcases List.mem_cons.1 k2 with rfl | k2
          · omega
          · exact ⟨t, k2, k3⟩
      · rintro (⟨k1, k2, k3⟩ | ⟨k1, ⟨t, k2, k3⟩, k4⟩)
        · exact ⟨k1, ⟨b, List.mem_cons_self .., k2⟩, k3⟩
        · exact ⟨by omega, ⟨t, List.mem_cons_of_mem _ k2, k3⟩, k4⟩
    rw [hsplit, ← ih, show selP P (a :: b :: r) = if P a then ⟨a, b⟩ :: selP P (b :: r) else selP P (b :: r) from rfl]
    split
    · rename_i hp
      rw [mem_cons]
      constructor
      · rintro (k | k)
        · exact .inl ⟨k.1, k.2, by rw [hin k.1 k.2]; exact hp⟩
        · exact .inr k
      · rintro (k | k)
        · exact .inl ⟨k.1, k.2.1⟩
        · exact .inr k
    · rename_i hp
      constructor
      · exact .inr
      · rintro (k | k)
        · exact absurd (hin k.1 k.2.1 ▸ k.2.2) hp
        · exact k
/-- THE REFERENCE's FORM: of what is alike between its marks, and true only between them. -/
theorem sel_form (P : Int → Bool) (m : List Int) (hr : Rise m) (hA : Alike P m) (hb : ∀ q, P q = true → (∃ s, s ∈ m ∧ s ≤ q) ∧ ∃ t, t ∈ m ∧ q < t) :
    NF (joinL (selP P m)) ∧ ∀ q, mem (joinL (selP P m)) q ↔ P q = true := by
  obtain ⟨h1, h2⟩ := joinL_ok (selP_sf P m hr)
  refine ⟨h1, fun q => (h2 q).trans ?_⟩
  rcases m with _ | ⟨a, r⟩
  · constructor
    · intro k
      simp [selP] at k
    · intro k
      obtain ⟨⟨s, hs, _⟩, _⟩ := hb q k
      cases hs
  · rw [selP_mem P r a hr hA q]
    constructor
    · exact fun k => k.2.2
    · intro k
      obtain ⟨⟨s, hs, hsq⟩, t, ht, hqt⟩ := hb q k
      have ha : ∀ z, z ∈ r → a < z := (List.pairwise_cons.1 hr).1
      have h3 : a ≤ q := by
        rcases List.mem_cons.1 hs with rfl | hs
        · exact hsq
        · have := ha s hs; omega
      refine ⟨h3, ?_, k⟩
      rcases List.mem_cons.1 ht with rfl | ht
      · omega
      · exact ⟨t, ht, hqt⟩
/-- Members of a list are alike between its ends. -/
theorem mem_alike {l : List S65} {m : List Int} (hm : ∀ x, x ∈ l → x.f0 ∈ m ∧ x.f1 ∈ m) : Alike (fun q => decide (mem l q)) m := by
  intro q s hs hsq ht
  apply decide_eq_decide.2
  constructor
  · rintro ⟨x, hx, k1, k2⟩
    refine ⟨x, hx, ?_, by omega⟩
    have := ht x.f0 (hm x hx).1
    omega
  · rintro ⟨x, hx, k1, k2⟩
    refine ⟨x, hx, by omega, ?_⟩
    have := ht x.f1 (hm x hx).2
    omega
theorem mem_between {l : List S65} {m : List Int} (hm : ∀ x, x ∈ l → x.f0 ∈ m ∧ x.f1 ∈ m) {q : Int} (h : mem l q) : (∃ s, s ∈ m ∧ s ≤ q) ∧ ∃ t, t ∈ m ∧ q < t := by
  obtain ⟨x, hx, k1, k2⟩ := h
  exact ⟨⟨x.f0, (hm x hx).1, k1⟩, x.f1, (hm x hx).2, k2⟩
theorem marksL_rise (ls : List (List S65)) : Rise (marksL ls) := fold_rise _ List.Pairwise.nil
theorem marksL_mem {ls : List (List S65)} {s : List S65} (hs : s ∈ ls) (x : S65) (hx : x ∈ s) : x.f0 ∈ marksL ls ∧ x.f1 ∈ marksL ls := by
  have h : x ∈ ls.flatten := List.mem_flatten.2 ⟨s, hs, hx⟩
  exact ⟨(fold_mem _ _ _).2 (.inl ⟨x, h, .inl rfl⟩), (fold_mem _ _ _).2 (.inl ⟨x, h, .inr rfl⟩)⟩
theorem marksL_length (ls : List (List S65)) : (marksL ls).length ≤ 2 * ls.flatten.length := by
  have := fold_length ls.flatten []
  simpa [marksL] using this

/-! ### Norm -/
theorem refnorm_l (s : List S65) (m : List Int) (hs : s.length < 100000) (hm : m.length < 1000000) : ∀ (k : Nat) (o : List S65) (i : Nat), i ≤ m.length → o.length ≤ i → (m.length - i) + s.length + m.length + 2 < k → fettleref03_Norm.l0 k s m o (i : Int) = some (joinL (o ++ selP (fun q => decide (mem s q)) (m.drop i)))
  | 0, _, _, _, _, h => by omega
  | k + 1, o, i, hi, ho, h => by
    simp only [fettleref03_Norm.l0]
    rw [w1 i (by omega)]
    by_cases hlt : i + 1 < m.length
    · rw [if_pos (by omega), if_pos (by omega), if_pos (by omega), rdI m i (by omega), has_ok _ (by omega) (by omega), obind, rdI m (i + 1) hlt]
      have hd : m.drop i = m[i] :: m[i + 1] :: m.drop (i + 2) := by rw [List.drop_eq_getElem_cons (by omega), List.drop_eq_getElem_cons hlt]
      have hd2 : m.drop (i + 1) = m[i + 1] :: m.drop (i + 2) := List.drop_eq_getElem_cons hlt
      rw [hd, selP, ← hd2]
      by_cases hp : mem s m[i]
      · rw [if_pos (decide_eq_true hp), if_pos (by omega), if_pos (by omega), if_pos (decide_eq_true hp), refnorm_l s m hs hm k _ (i + 1) (by omega) (by simp; omega) (by omega)]
        simp
      · rw [if_neg (by simpa using hp), if_neg (by simpa using hp)]
        exact refnorm_l s m hs hm k o (i + 1) (by omega) (by omega) (by omega)
    · rw [if_neg (by omega), joined_ok (by omega) (by omega), obind]
      have : selP (fun q => decide (mem s q)) (m.drop i) = [] := by
        have hl : (m.drop i).length ≤ 1 := by rw [List.length_drop]; omega
        rcases h5 : m.drop i with _ | ⟨a, _ | ⟨b, r⟩⟩
        · rfl
        · rfl
        · rw [h5] at hl; simp at hl
      rw [this, List.append_nil]
theorem refnorm_ok {s : List S65} {k : Nat} (hs : s.length < 1000) (hk : 20 * s.length + 20 < k) : fettleref03_Norm.f k s = some (normL s) := by
  unfold fettleref03_Norm.f
  have hm := marksL_length [s]
  have hf : ([s] : List (List S65)).flatten = s := by simp
  rw [marks_ok (ls := [s]) (by rw [hf]; omega) (by simp) (by simp; omega) (by rw [hf]; simp; omega), obind]
  rw [hf] at hm
  have := refnorm_l s (marksL [s]) (by omega) (by omega) k [] 0 (Nat.zero_le _) (Nat.le_refl _) (by omega)
  simp only [List.nil_append, List.drop_zero] at this
  rw [show ((0 : Nat) : Int) = 0 from rfl] at this
  rw [this]
  have hmm : ∀ x, x ∈ s → x.f0 ∈ marksL [s] ∧ x.f1 ∈ marksL [s] := fun x hx => marksL_mem (by simp) x hx
  obtain ⟨h1, h2⟩ := sel_form (fun q => decide (mem s q)) (marksL [s]) (marksL_rise _) (mem_alike hmm) (fun q hq => mem_between hmm (of_decide_eq_true hq))
  rw [normL_eq h1 (fun p => (h2 p).trans ⟨of_decide_eq_true, decide_eq_true⟩)]
end Go.Proofs.Ytpmhlomilobgaaa.ExtP
