/- append(out, x) in a loop body: what lies behind it. -/
import Derived.Test.YtpmhlomilobgaaaExtB
import Derived.WalkSmall
set_option linter.unusedVariables false
set_option linter.unusedSimpArgs false
namespace Go.Proofs.Ytpmhlomilobgaaa.ExtA
open Go.RowKit Go.Shelf Go.Proofs.Ytpmhlomilobgaaa.PExt Go.Proofs.YtpmhlomilobgaaaW.PrintWords Go.Proofs.YtpmhlomilobgaaaW.PrintLast Go.Proofs.YtpmhlomilobgaaaW.PrintMore
open Go.Proofs.Ytpmhlomilobgaaa.ExtS (flat flat_length reps_flat flat_reps)
attribute [local go_sem] Oper.semAt_some

theorem wpListIn_append_at {F : Fence} {n : Nat} {P : Program} (w : World) {ops : Array Oper} {rest : List Oper} {o : Oper} {a : Act} {Q : Exit → Act → World → Prop}
    (hg : o.guard = none) (s x : Operand) (t : TypeId) (hop : o.op = Op.call { callee := Callee.builtin Builtin.append, args := #[s, x], argTypes := #[t, t] })
    (base : Nat) (e : TypeId) (i : TypeInfo) (z : Value) (size bytes : Nat) (h1 : P.underlying t = some (.slice e)) (h2 : P.info? e = some i) (h3 : i.zero = some z) (h4 : i.size = size) (h5 : i.bytes = bytes) (h6 : z.cells.size = size) (h7 : 0 < size)
    (v : Value) (k : Nat) (xs : List Value) (hs : a.eval s = v) (hown : w.ownsRow base e size v k xs) (ad : Addr) (m c : Nat) (news : List Value) (hx : a.eval x = .slice (some ad) m c) (hn : news.length = m * size)
    (hc : ∀ j u, news[j]? = some u → w.cell? (ad.add j) = some u) (h1c : ∀ u ∈ news, u.oneCell' = true) (b1 : k + m ≤ maxLen) (b2 : (k + m) * bytes ≤ 140737488355328) (b3 : base ≤ w.heap.size)
    (hK : ∀ v' w', w'.ownsRow base e size v' (k + m) (xs ++ news) → w.grownBy w' v.ownBlock → (v'.ownBlock = v.ownBlock ∨ v'.ownBlock = some w.heap.size) → wpListIn F n P ops Q rest (a.put o.dst v') w') :
    wpListIn F n P ops Q (o :: rest) a w := by
  refine wpListIn_plain hg fun K hK' => ?_
  obtain ⟨v', w', hrun, r1, r2, r3, r4⟩ := run_append_own_at (P := P) w base t o.type e i z size bytes h1 h2 h3 h4 h5 h6 h7 v k xs hown ad m c news hn hc h1c b1 b2 b3
  unfold Oper.wpIn
  refine ⟨?_, ?_⟩
  · simp [Oper.about, hop, resolve, Target.leads, Sem.run_pure]
  · rw [Oper.semAt_plain F _ _ (by rw [hop]; intro c hc'; cases hc')]
    simp [execOp, hop, resolve, invoke, builtin, hs, hx, hrun, Result.andThen]
    exact hK' _ _ (hK v' w' r1 r2 r4)

theorem flat_snoc : ∀ (l : List S65) (x : S65), flat (l ++ [x]) = flat l ++ [.int .i64 x.f0, .int .i64 x.f1]
  | [], _ => rfl
  | y :: l, x => by simp [flat, flat_snoc l x]
theorem own_nil65 (W : World) (base : Nat) : W.ownsRow base 65 2 (.slice none 0 0) ([] : List S65).length (flat []) := own_nil _ _ _ _

/-- 'The box of out holds a slice that owns l.' -/
def OutB (B base : Nat) (l : List S65) (W : World) : Prop := ∃ v, Boxed W B 56 v ∧ W.ownsRow base 65 2 v l.length (flat l)
theorem outB_own {β : Type} (B base : Nat) (f : β → List S65) : Own (fun s W => OutB B base (f s) W) := fun s X Y row hs hg hr => by
  obtain ⟨v, h1, h2⟩ := hs
  obtain ⟨v', h3, h4, _⟩ := holdsRow_own base B 56 65 2 (fun s => (f s).length) (fun s => flat (f s)) (fun _ _ => True) s X Y row ⟨v, h1, h2, trivial⟩ hg hr
  exact ⟨v', h3, h4⟩
theorem OutB.alloc {B base : Nat} {l : List S65} {W : World} (h : OutB B base l W) (o : Obj) : OutB B base l (W.alloc o) := by
  obtain ⟨v, h1, h2⟩ := h
  exact ⟨v, h1.alloc o, h2.alloc o⟩
theorem own_R {W : World} {base : Nat} {v : Value} {l : List S65} (h : W.ownsRow base 65 2 v l.length (flat l)) : Kd.R k65 65 W base (fun _ => True) v l := ⟨fun _ _ => trivial, flat l, h, flat_reps l⟩
theorem R_own' {W : World} {base : Nat} {v : Value} {l : List S65} (h : Kd.R k65 65 W base (fun _ => True) v l) : W.ownsRow base 65 2 v l.length (flat l) := by
  obtain ⟨_, inner, ho, hr⟩ := h
  obtain rfl := reps_flat hr
  exact ho

/-- 'out = append(out, x)', the box holding v: all that the walk owes. -/
theorem appended65 {W w1 : World} {base B : Nat} {v v' : Value} {l : List S65} {x : S65} {tmp : Obj}
    (hv : Boxed W B 56 v) (hrow : W.ownsRow base 65 2 v l.length (flat l)) (hB : B < base)
    (hown' : w1.ownsRow base 65 2 v' (l.length + 1) (flat l ++ [.int .i64 x.f0, .int .i64 x.f1])) (hgrow : (W.alloc tmp).grownBy w1 v.ownBlock) (hat : v'.ownBlock = v.ownBlock ∨ v'.ownBlock = some (W.alloc tmp).heap.size) :
    Boxed w1 B 56 v ∧ OutB B base (l ++ [x]) (w1.setCell ⟨B, 0, none⟩ v') ∧ KpO B W (w1.setCell ⟨B, 0, none⟩ v') ∧ KeepsOthers W (w1.setCell ⟨B, 0, none⟩ v') ∧ (∀ W0, W0.heap.size = base → LK B W0 W → LK B W0 (w1.setCell ⟨B, 0, none⟩ v')) := by
  have hv1 : Boxed w1 B 56 v := (hv.alloc tmp).kept hgrow (hv.not_row (by decide) hrow)
  have hst : w1.grownBy (w1.setCell ⟨B, 0, none⟩ v') (some B) := grownBy_setCell' w1 B v'
  have hal : W.heap.size ≤ (W.alloc tmp).heap.size := by simp
  refine ⟨hv1, ⟨v', hv1.set v', ?_⟩, ⟨?_, ?_, ?_⟩, ?_, ?_⟩
  · have := hown'.kept hst (.inr (hv1.not_row (by decide) hown').symm)
    rw [← flat_snoc] at this
    simpa using this
  · exact Nat.le_trans hal (Nat.le_trans hgrow.size hst.size)
  · intro k c t z hk hne hh
    have hlt := (Array.getElem?_eq_some_iff.1 hk).1
    have hne2 : some k ≠ v.ownBlock := fun e => hh (by rw [hold, hv.cell]; exact e.symm)
    have h1 := (World.grownBy_alloc W tmp none).block k hlt (by simp)
    have h2 := hgrow.block k (by omega) hne2
    have h3 := hst.block k (by have := hgrow.size; omega) (fun e => hne (by injection e))
    rw [h3, h2, h1, hk]
  · have e1 : hold B (w1.setCell ⟨B, 0, none⟩ v') = v'.ownBlock := by rw [hold, (hv1.set v').cell]; rfl
    have e2 : hold B W = v.ownBlock := by rw [hold, hv.cell]; rfl
    rw [e1, e2]
    rcases hat with h | h
    · exact .inl h
    · exact .inr ⟨_, h, hal⟩
  · refine ((KeepsOthers.alloc W tmp).trans (KeepsOthers.of_grownBy hgrow fun j o ej hj => ?_)).trans (KeepsOthers.setCell _ _ _)
    rcases (hrow.alloc tmp).2 with ⟨rfl, _⟩ | ⟨g, cap, cur, rfl, _, hgb, _⟩
    · simp [Value.ownBlock] at ej
    · obtain rfl : g = j := by simpa [Value.ownBlock] using ej
      rw [hgb] at hj; cases hj; rfl
  · intro W0 hb hlk
    refine ((hlk.below ((Below.refl _ W).alloc (Nat.le_refl _) tmp)).grown hgrow (fun r hr => ?_)).set v'
    rw [hb]
    exact own_base hrow r hr
end Go.Proofs.Ytpmhlomilobgaaa.ExtA
