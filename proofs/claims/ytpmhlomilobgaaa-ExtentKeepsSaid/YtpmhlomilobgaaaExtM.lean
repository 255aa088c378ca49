/- Sets of whole numbers as lists of parts: the one form; what the program's functions come to. Plain Lean. -/
import Derived.Test.YtpmhlomilobgaaaPExtx0
set_option linter.unusedVariables false
set_option linter.unusedSimpArgs false
namespace Go.Proofs.Ytpmhlomilobgaaa.ExtM
open Go.RowKit Go.Proofs.Ytpmhlomilobgaaa.PExt Go.Proofs.YtpmhlomilobgaaaW.PrintWords

/-! ### what the functions come to -/
def ins (x : S65) : List S65 → List S65
  | [] => [x]
  | y :: r => if x.f0 ≤ y.f0 then x :: y :: r else y :: ins x r
def isrt : List S65 → List S65
  | [] => []
  | x :: r => ins x (isrt r)
def goM (y : S65) : List S65 → List S65
  | [] => [y]
  | x :: r => if x.f1 ≤ x.f0 then goM y r else if x.f0 ≤ y.f1 then goM ⟨y.f0, mx y.f1 x.f1⟩ r else y :: goM x r
def mrg : List S65 → List S65
  | [] => []
  | x :: r => if x.f1 ≤ x.f0 then mrg r else goM x r
def normL (l : List S65) : List S65 := mrg (isrt l)
def bytesStep (n : Int) (x : S65) : Int := wrap64 (n + wrap64 (x.f1 - x.f0))
def bytesL (l : List S65) : Int := l.foldl bytesStep 0
def meetX (x : S65) (b : List S65) : List S65 := b.map fun y => ⟨mx x.f0 y.f0, mn x.f1 y.f1⟩
def meetL (a b : List S65) : List S65 := a.flatMap fun x => meetX x b
/-- The inner loop of Minus: where it stands, what has come. -/
def minusGo (x1 : Int) : Int → List S65 → List S65 → Int × List S65
  | at_, out, [] => (at_, out)
  | at_, out, y :: r => if y.f1 ≤ at_ then minusGo x1 at_ out r else if y.f0 ≥ x1 then minusGo x1 at_ out r else minusGo x1 y.f1 (out ++ [⟨at_, y.f0⟩]) r
def minusX (x : S65) (b : List S65) : List S65 := (minusGo x.f1 x.f0 [] b).2 ++ [⟨(minusGo x.f1 x.f0 [] b).1, x.f1⟩]
def minusL (a b : List S65) : List S65 := a.flatMap fun x => minusX x b
def downZ (n u : Int) : Int := if Int.tmod n u < 0 then wrap64 (n - wrap64 (Int.tmod n u + u)) else wrap64 (n - Int.tmod n u)
def inX (u : Int) (x : S65) : S65 := ⟨if downZ x.f0 u < x.f0 then wrap64 (downZ x.f0 u + u) else downZ x.f0 u, downZ x.f1 u⟩

def sortF (l : List S65) : Option (List S65) := if l.length < 8796093022208 then some (isrt l) else none
def bytesF (l : List S65) : Option Int := if l.length ≤ 1000000 then some (bytesL (normL l)) else none
def meetF (a b : List S65) : Option (List S65) := if a.length ≤ 1000000 ∧ b.length ≤ 1000000 then some (normL (meetL (normL a) (normL b))) else none
def minusF (a b : List S65) : Option (List S65) := if a.length ≤ 1000000 ∧ b.length ≤ 1000000 then some (normL (minusL (normL a) (normL b))) else none
def inwardF (l : List S65) (u : Int) : Option (List S65 × Int) := if 1 ≤ u ∧ l.length ≤ 1000000 then some (normL ((normL l).map (inX u)), 0) else none

/-! ### sorted -/
def Srt (l : List S65) : Prop := l.Pairwise fun x y => x.f0 ≤ y.f0
theorem ins_perm (x : S65) : ∀ l, (ins x l).Perm (x :: l)
  | [] => .refl _
  | y :: r => by
    unfold ins
    split
    · exact .refl _
    · exact ((ins_perm x r).cons y).trans (.swap x y r)
theorem isrt_perm : ∀ l, (isrt l).Perm l
  | [] => .refl _
  | x :: r => (ins_perm x _).trans ((isrt_perm r).cons x)
theorem ins_srt (x : S65) : ∀ {l}, Srt l → Srt (ins x l)
  | [], _ => by simp [ins, Srt]
  | y :: r, h => by
    unfold ins
    obtain ⟨h1, h2⟩ := List.pairwise_cons.1 h
    split
    · rename_i hx
      refine List.pairwise_cons.2 ⟨fun z hz => ?_, h⟩
      rcases List.mem_cons.1 hz with rfl | hz
      · exact hx
      · exact Int.le_trans hx (h1 z hz)
    · rename_i hx
      refine List.pairwise_cons.2 ⟨fun z hz => ?_, ins_srt x h2⟩
      rcases List.mem_cons.1 ((ins_perm x r).mem_iff.1 hz) with rfl | hz
      · omega
      · exact h1 z hz
theorem isrt_srt : ∀ l, Srt (isrt l)
  | [] => List.Pairwise.nil
  | x :: r => ins_srt x (isrt_srt r)
theorem isrt_length (l : List S65) : (isrt l).length = l.length := (isrt_perm l).length_eq

/-! ### members; the one form -/
def inS (x : S65) (p : Int) : Prop := x.f0 ≤ p ∧ p < x.f1
instance (x : S65) (p : Int) : Decidable (inS x p) := inferInstanceAs (Decidable (_ ∧ _))
def mem (l : List S65) (p : Int) : Prop := ∃ x, x ∈ l ∧ inS x p
@[simp] theorem mem_nil (p : Int) : mem [] p ↔ False := by simp [mem]
@[simp] theorem mem_cons (x : S65) (l : List S65) (p : Int) : mem (x :: l) p ↔ inS x p ∨ mem l p := by simp [mem]
@[simp] theorem mem_append (a b : List S65) (p : Int) : mem (a ++ b) p ↔ mem a p ∨ mem b p := by
  simp only [mem, List.mem_append]
  constructor
  · rintro ⟨x, h | h, k⟩
    · exact .inl ⟨x, h, k⟩
    · exact .inr ⟨x, h, k⟩
  · rintro (⟨x, h, k⟩ | ⟨x, h, k⟩)
    · exact ⟨x, .inl h, k⟩
    · exact ⟨x, .inr h, k⟩
theorem mem_perm {a b : List S65} (h : a.Perm b) (p : Int) : mem a p ↔ mem b p := by
  constructor <;> rintro ⟨x, hx, k⟩
  · exact ⟨x, h.mem_iff.1 hx, k⟩
  · exact ⟨x, h.mem_iff.2 hx, k⟩
theorem mem_flatMap {α : Type} (a : List α) (f : α → List S65) (p : Int) : mem (a.flatMap f) p ↔ ∃ x, x ∈ a ∧ mem (f x) p := by
  simp only [mem, List.mem_flatMap]
  constructor
  · rintro ⟨x, ⟨y, hy, hx⟩, k⟩
    exact ⟨y, hy, x, hx, k⟩
  · rintro ⟨y, hy, x, hx, k⟩
    exact ⟨x, ⟨y, hy, hx⟩, k⟩
/-- Parts that rise, none empty, none touching another. -/
def NF (l : List S65) : Prop := (∀ x, x ∈ l → x.f0 < x.f1) ∧ l.Pairwise fun x y => x.f1 < y.f0
theorem NF.nil : NF [] := ⟨by simp, List.Pairwise.nil⟩
theorem NF.tail {x : S65} {l : List S65} (h : NF (x :: l)) : NF l := ⟨fun y hy => h.1 y (List.mem_cons_of_mem _ hy), (List.pairwise_cons.1 h.2).2⟩
theorem NF.head {x : S65} {l : List S65} (h : NF (x :: l)) : x.f0 < x.f1 := h.1 x (List.mem_cons_self ..)
theorem NF.far {x : S65} {l : List S65} (h : NF (x :: l)) {y : S65} (hy : y ∈ l) : x.f1 < y.f0 := (List.pairwise_cons.1 h.2).1 y hy
theorem NF.cons {x : S65} {l : List S65} (h : NF l) (hx : x.f0 < x.f1) (hf : ∀ y, y ∈ l → x.f1 < y.f0) : NF (x :: l) :=
  ⟨fun y hy => by
    rcases List.mem_cons.1 hy with rfl | hy
    · exact hx
    · exact h.1 y hy, List.pairwise_cons.2 ⟨hf, h.2⟩⟩
theorem NF.beyond {x : S65} {l : List S65} (h : NF (x :: l)) {p : Int} (hp : mem l p) : x.f1 < p := by
  obtain ⟨y, hy, k1, _⟩ := hp
  have := h.far hy
  omega
theorem S65.eq_ {x y : S65} (h0 : x.f0 = y.f0) (h1 : x.f1 = y.f1) : x = y := by
  cases x; cases y; simp_all
/-- THE ONE FORM: two forms with the same members are one. -/
theorem NF.unique : ∀ {a b : List S65}, NF a → NF b → (∀ p, mem a p ↔ mem b p) → a = b
  | [], [], _, _, _ => rfl
  | [], y :: b, _, hb, h => by
    have := (h y.f0).2 ((mem_cons ..).2 (.inl ⟨Int.le_refl _, hb.head⟩))
    simp at this
  | x :: a, [], ha, _, h => by
    have := (h x.f0).1 ((mem_cons ..).2 (.inl ⟨Int.le_refl _, ha.head⟩))
    simp at this
  | x :: a, y :: b, ha, hb, h => by
    have hx := ha.head
    have hy := hb.head
    have e0 : x.f0 = y.f0 := by
      have k1 := (h x.f0).1 ((mem_cons ..).2 (.inl ⟨Int.le_refl _, hx⟩))
      have k2 := (h y.f0).2 ((mem_cons ..).2 (.inl ⟨Int.le_refl _, hy⟩))
      have m1 : y.f0 ≤ x.f0 := by
        rcases (mem_cons ..).1 k1 with k | k
        · exact k.1
        · have := hb.beyond k; omega
      have m2 : x.f0 ≤ y.f0 := by
        rcases (mem_cons ..).1 k2 with k | k
        · exact k.1
        · have := ha.beyond k; omega
      omega
    have e1 : x.f1 = y.f1 := by
      rcases Int.lt_trichotomy x.f1 y.f1 with k | k | k
      · exfalso
        rcases (mem_cons ..).1 ((h x.f1).2 ((mem_cons ..).2 (.inl ⟨by omega, k⟩))) with q | q
        · have := q.2; omega
        · have := ha.beyond q; omega
      · exact k
      · exfalso
        rcases (mem_cons ..).1 ((h y.f1).1 ((mem_cons ..).2 (.inl ⟨by omega, k⟩))) with q | q
        · have := q.2; omega
        · have := hb.beyond q; omega
    obtain rfl := S65.eq_ e0 e1
    rw [NF.unique ha.tail hb.tail (fun p => by
      constructor
      · intro k
        have k0 := ha.beyond k
        rcases (mem_cons ..).1 ((h p).1 ((mem_cons ..).2 (.inr k))) with q | q
        · have := q.2; omega
        · exact q
      · intro k
        have k0 := hb.beyond k
        rcases (mem_cons ..).1 ((h p).2 ((mem_cons ..).2 (.inr k))) with q | q
        · have := q.2; omega
        · exact q)]

/-! ### normL -/
theorem goM_ok : ∀ (l : List S65) (y : S65), Srt l → y.f0 < y.f1 → (∀ x, x ∈ l → y.f0 ≤ x.f0) →
    NF (goM y l) ∧ (∀ p, mem (goM y l) p ↔ inS y p ∨ mem l p) ∧ (∀ z, z ∈ goM y l → y.f0 ≤ z.f0)
  | [], y, _, hy, _ => by
    refine ⟨NF.nil.cons hy (by simp), fun p => by simp [goM], fun z hz => ?_⟩
    have : z = y := by simpa [goM] using hz
    rw [this]
    exact Int.le_refl _
  | x :: r, y, hs, hy, hl => by
    obtain ⟨h1, h2⟩ := List.pairwise_cons.1 hs
    have hyx := hl x (List.mem_cons_self ..)
    unfold goM
    split
    · rename_i he
      obtain ⟨a, b, c⟩ := goM_ok r y h2 hy (fun z hz => hl z (List.mem_cons_of_mem _ hz))
      refine ⟨a, fun p => ?_, c⟩
      rw [b p, mem_cons]
      constructor
      · rintro (k | k)
        · exact .inl k
        · exact .inr (.inr k)
      · rintro (k | k | k)
        · exact .inl k
        · exact absurd k.2 (by have := k.1; omega)
        · exact .inr k
    · rename_i he
      split
      · rename_i ht
        have hm : mx y.f1 x.f1 = max y.f1 x.f1 := by unfold mx; omega
        obtain ⟨a, b, c⟩ := goM_ok r ⟨y.f0, mx y.f1 x.f1⟩ h2 (by rw [hm]; show y.f0 < max y.f1 x.f1; omega) (fun z hz => hl z (List.mem_cons_of_mem _ hz))
        refine ⟨a, fun p => ?_, c⟩
        rw [b p, mem_cons]
        constructor
        · rintro (k | k)
          · have k1 := k.1
            have k2 := k.2
            simp only [hm] at k1 k2
            by_cases hp : p < y.f1
            · exact .inl ⟨k1, hp⟩
            · exact .inr (.inl ⟨by omega, by omega⟩)
          · exact .inr (.inr k)
        · rintro (k | k | k)
          · exact .inl ⟨k.1, by have := k.2; simp only [hm]; omega⟩
          · exact .inl ⟨by have := k.1; show y.f0 ≤ p; omega, by have := k.2; simp only [hm]; omega⟩
          · exact .inr k
      · rename_i ht
        obtain ⟨a, b, c⟩ := goM_ok r x h2 (by omega) h1
        refine ⟨a.cons hy (fun z hz => by have := c z hz; omega), fun p => ?_, fun z hz => ?_⟩
        · rw [mem_cons, b p, mem_cons]
        · rcases List.mem_cons.1 hz with rfl | hz
          · exact Int.le_refl _
          · have := c z hz; omega
theorem mrg_ok : ∀ (l : List S65), Srt l → NF (mrg l) ∧ ∀ p, mem (mrg l) p ↔ mem l p
  | [], _ => ⟨NF.nil, fun p => Iff.rfl⟩
  | x :: r, hs => by
    obtain ⟨h1, h2⟩ := List.pairwise_cons.1 hs
    unfold mrg
    split
    · rename_i he
      obtain ⟨a, b⟩ := mrg_ok r h2
      refine ⟨a, fun p => ?_⟩
      rw [b p, mem_cons]
      exact ⟨.inr, fun k => k.elim (fun k => absurd k.2 (by have := k.1; omega)) id⟩
    · rename_i he
      obtain ⟨a, b, _⟩ := goM_ok r x h2 (by omega) h1
      exact ⟨a, fun p => by rw [b p, mem_cons]⟩
theorem normL_nf (l : List S65) : NF (normL l) := (mrg_ok _ (isrt_srt l)).1
theorem mem_normL (l : List S65) (p : Int) : mem (normL l) p ↔ mem l p := ((mrg_ok _ (isrt_srt l)).2 p).trans (mem_perm (isrt_perm l) p)
theorem normL_eq {l L : List S65} (h : NF L) (hm : ∀ p, mem L p ↔ mem l p) : normL l = L := (normL_nf l).unique h fun p => (mem_normL l p).trans (hm p).symm
theorem normL_of_nf {l : List S65} (h : NF l) : normL l = l := normL_eq h fun _ => Iff.rfl
theorem normL_congr {a b : List S65} (h : ∀ p, mem a p ↔ mem b p) : normL a = normL b := normL_eq (normL_nf b) fun p => (mem_normL b p).trans (h p).symm
/-- Whatever way the parts were sorted. -/
theorem mrg_sorted {l l' : List S65} (hs : Srt l') (hp : l'.Perm l) : mrg l' = normL l :=
  (mrg_ok l' hs).1.unique (normL_nf l) fun p => ((mrg_ok l' hs).2 p).trans ((mem_perm hp p).trans (mem_normL l p).symm)
theorem goM_length : ∀ (l : List S65) (y : S65), (goM y l).length ≤ l.length + 1
  | [], _ => by simp [goM]
  | x :: r, y => by
    unfold goM
    split
    · have := goM_length r y; simp; omega
    · split
      · have := goM_length r ⟨y.f0, mx y.f1 x.f1⟩; simp; omega
      · have := goM_length r x; simp; omega
theorem mrg_length : ∀ (l : List S65), (mrg l).length ≤ l.length
  | [] => by simp [mrg]
  | x :: r => by
    unfold mrg
    split
    · have := mrg_length r; simp; omega
    · have := goM_length r x; simp; omega
theorem normL_length (l : List S65) : (normL l).length ≤ l.length := by
  have := mrg_length (isrt l)
  rwa [isrt_length] at this
end Go.Proofs.Ytpmhlomilobgaaa.ExtM
