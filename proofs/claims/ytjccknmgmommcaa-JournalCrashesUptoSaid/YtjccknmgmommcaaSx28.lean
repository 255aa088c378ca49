import Derived.Test.YtjccknmgmommcaaSxEc
set_option linter.unusedVariables false
set_option linter.unusedSimpArgs false
namespace Go.Proofs.Ytjccknmgmommcaa.Sx
open Go.RowKit Go.ChangeShapes Go.WideShapes
/-! ### What a law's argument is, with its bulk -/
structure Bulk (bk : (H : Type) → DataW H → Nat) : Prop where
  slice : ∀ (H : Type) (elems spare : List (DataW H)), (elems.map (bk H)).sum + 1 ≤ bk H (.slice elems spare)
  agg : ∀ (H : Type) (parts : List (DataW H)), (parts.map (bk H)).sum + 1 ≤ bk H (.agg parts)
  pos : ∀ (H : Type) (d : DataW H), 1 ≤ bk H d
def ATb {α : Type} (bk : (H : Type) → DataW H → Nat) (P : Program) (t : TypeId) (sz : Nat) (f : α → List AV) (G : α → Prop) (μ : α → Nat) : Prop :=
  ∀ (H : Type) (enc : TypeId × Value → H) (w : World) (base : Nat) (spare : Nat → Bool) (held : Bool) (fuel : Nat) (cs : List Value) (x : DataW H × List MemPlace),
    DataW.trod enc P w base spare held fuel t cs = some x → ∃ y, Reps (fun _ => none) (J1 w) w (f y) cs ∧ (G y ∧ μ y ≤ bk H x.1) ∧ cs.length = sz ∧ ∀ u ∈ cs, u.oneCell' = true
theorem AT.b {α : Type} {bk : (H : Type) → DataW H → Nat} {P : Program} {t : TypeId} {sz : Nat} {f : α → List AV} {G : α → Prop} (h : AT P t sz f G) : ATb bk P t sz f G (fun _ => 0) := by
  intro H enc w base spare held fuel cs x hx
  obtain ⟨y, h1, h2, h3, h4⟩ := h H enc w base spare held fuel cs x hx
  exact ⟨y, h1, ⟨h2, Nat.zero_le _⟩, h3, h4⟩
theorem im_len {ρ : Nat → Option Nat} {J : Bool → Nat → Prop} {w : World} {g : Bool} {sz n : Nat} {c : Cont} {A : Option Addr} {len cap : Nat} (h : Rep ρ J w (.im g sz n c) (.slice A len cap)) : n = len := by
  cases h; rfl
theorem reps_head {ρ : Nat → Option Nat} {J : Bool → Nat → Prop} {w : World} {a : AV} {ar : List AV} {v : Value} {vs : List Value} (h : Reps ρ J w (a :: ar) (v :: vs)) : Rep ρ J w a v := by
  cases h; assumption
theorem len_sum {f : Nat → Nat} : ∀ (n : Nat), (∀ i, 1 ≤ f i) → n ≤ ((List.range n).map f).sum
  | 0, _ => Nat.zero_le _
  | n + 1, h => by
    have := len_sum n h
    have := h n
    rw [List.range_succ, List.map_append, List.sum_append]
    simp
    omega
theorem sum_le' {f g : Nat → Nat} : ∀ (n : Nat), (∀ i, i < n → f i ≤ g i) → ((List.range n).map f).sum ≤ ((List.range n).map g).sum
  | 0, _ => Nat.le_refl _
  | n + 1, h => by
    have h1 := sum_le' n (fun i hi => h i (by omega))
    have h2 := h n (by omega)
    rw [List.range_succ, List.map_append, List.sum_append, List.map_append, List.sum_append]
    simp
    omega
theorem sum_le {β γ : Type _} {μ : β → Nat} {b : γ → Nat} (l : List β) (D : Nat → γ) (n : Nat) (h : ∀ i (hi : i < l.length), μ l[i] ≤ b (D i)) : (l.map μ).sum ≤ ((List.range l.length).map (b ∘ D)).sum := by
  have e : l.map μ = (List.range l.length).map (fun i => if h : i < l.length then μ l[i] else 0) := by
    apply List.ext_getElem
    · simp
    · intro i h1 h2
      simp at h1
      simp [h1]
  rw [e]
  refine sum_le' _ (fun i hi => ?_)
  simp only [dif_pos hi]
  exact h i hi
section
variable {bk : (H : Type) → DataW H → Nat}
theorem ATb.iso {α β : Type} {P : Program} {t : TypeId} {sz : Nat} {f : α → List AV} {f' : β → List AV} {G : α → Prop} {G' : β → Prop} {μ : α → Nat} {μ' : β → Nat} (h : ATb bk P t sz f G μ) (g : α → β) (hf : ∀ y, f' (g y) = f y) (hG : ∀ y, G y → G' (g y)) (hm : ∀ y, μ' (g y) ≤ μ y) : ATb bk P t sz f' G' μ' := by
  intro H enc w base spare held fuel cs x hx
  obtain ⟨y, h1, ⟨h2, h5⟩, h3, h4⟩ := h H enc w base spare held fuel cs x hx
  exact ⟨g y, by rw [hf]; exact h1, ⟨hG y h2, Nat.le_trans (hm y) h5⟩, h3, h4⟩
/-- Numbers, one cell each: as many as are read. -/
theorem ATb.ints {P : Program} {t e : TypeId} {k : IntKind} (hbk : Bulk bk) (hu : P.underlying t = some (.slice e)) (hc : P.cellsOf e = 1) (he : P.underlying e = some (.int k)) :
    ATb bk P t 1 (fun l => [.im true 1 l.length (.ints k l)]) (fun l => l.length ≤ maxLen ∧ ∀ y ∈ l, (Lit.int k y).wf = true) (fun l => l.length + 1) := by
  intro H enc w base spare held fuel cs x h
  obtain ⟨y, h1, h2, h3, h4⟩ := AT.ints hu hc he H enc w base spare held fuel cs x h
  refine ⟨y, h1, ⟨h2, ?_⟩, h3, h4⟩
  rcases Go.Deep.open_slice1 hu hc h with ⟨rfl, rfl⟩ | ⟨a, len, cap, m, n, V, D, Pl, rfl, hb, hl, hm, hmm, hxe, hx⟩
  · have hle := im_len (reps_head h1)
    have := hbk.pos H DataW.nil
    show y.length + 1 ≤ bk H DataW.nil
    omega
  · have hle := im_len (reps_head h1)
    rw [hxe]
    have := hbk.slice H ((List.range len).map D) ((List.range (m - len)).map fun j => D (len + j))
    have h5 : len ≤ (((List.range len).map D).map (bk H)).sum := by
      rw [List.map_map]
      exact len_sum len (fun i => hbk.pos H (D i))
    show y.length + 1 ≤ bk H (.slice _ _)
    omega
theorem ATb.recs {α : Type} {P : Program} {t e : TypeId} {sz : Nat} {f : α → List AV} {G : α → Prop} {μ : α → Nat} (hbk : Bulk bk) (z : α) (hu : P.underlying t = some (.slice e)) (hc : P.cellsOf e = sz) (hsz : 0 < sz) (he : ATb bk P e sz f G μ) :
    ATb bk P t 1 (fun l : List α => [.im true sz l.length (.recs sz l.length (fun i => f (l.getD i z)))]) (fun l => l.length ≤ maxLen ∧ ∀ y ∈ l, G y) (fun l => (l.map μ).sum) := by
  intro H enc w base spare held fuel cs x h
  rcases Go.Deep.open_slice hu h with ⟨rfl, _⟩ | ⟨a, len, cap, m, n, D, Pl, rfl, hb, hl, hm, hmm, hxe, hx⟩
  · exact ⟨[], .cons (.im (cs := []) (Nat.le_refl _) (fun h => absurd rfl h) (.recs (fun _ => []) (fun i hi => absurd hi (Nat.not_lt_zero _)) (fun i hi => absurd hi (Nat.not_lt_zero _)) (fun i o hi => absurd hi (Nat.not_lt_zero _)) (by simp)) (by simp) (by simp) (fun _ => rfl) (fun _ => rfl)) .nil, ⟨⟨Nat.zero_le _, by simp⟩, by simp⟩, rfl, by intro u hu; simp at hu; subst hu; rfl⟩
  · have hlm : len ≤ m := by rw [hmm]; split <;> omega
    have hall : ∀ i, i < len → ∃ q : α × List Value, w.cells? base (a.add (i * sz)) sz = some q.2 ∧ Reps (fun _ => none) (J1 w) w (f q.1) q.2 ∧ (G q.1 ∧ μ q.1 ≤ bk H (D i)) ∧ q.2.length = sz ∧ ∀ u ∈ q.2, u.oneCell' = true := by
      intro i hi
      obtain ⟨cs', h1, h2⟩ := hx i (by omega)
      obtain ⟨y, g1, g2, g3, g4⟩ := he H enc w base spare held n cs' _ h2
      rw [hc] at h1
      exact ⟨(y, cs'), h1, g1, g2, g3, g4⟩
    obtain ⟨l, hll, hp⟩ := list_of len _ hall
    obtain ⟨us, hus⟩ : ∃ us : Nat → List Value, us = fun i => ((l[i]?).map (·.2)).getD [] := ⟨_, rfl⟩
    have hui : ∀ i (hi : i < l.length), us i = (l[i]).2 := fun i hi => by rw [hus]; simp [hi]
    obtain ⟨hf1, hf2⟩ := flat_get (us := us) (sz := sz) len (fun i hi => by rw [hui i (by omega)]; exact (hp i (by omega)).2.2.2.1)
    have hcell : ∀ i o u, i < len → o < sz → (us i)[o]? = some u → w.cell? (a.add (i * sz + o)) = some u := by
      intro i o u hi ho hu
      rw [hui i (by omega)] at hu
      obtain ⟨_, _, hcc⟩ := World.cells?_some (hp i (by omega)).1
      have := hcc o ho
      rw [hu] at this
      rw [← this]
      congr 1
      unfold Addr.add
      by_cases h1 : i * sz = 0 <;> by_cases h2 : o = 0 <;> simp [h1, h2, Nat.add_assoc]
    have hgd : ∀ i, i < len → ∃ hi : i < l.length, (l.map (·.1)).getD i z = (l[i]).1 := fun i hi => ⟨by omega, by simp [List.getD_eq_getElem?_getD, show i < l.length by omega]⟩
    subst hll
    refine ⟨l.map (·.1), ?_, ⟨⟨by rw [List.length_map]; omega, fun y hy => ?_⟩, ?_⟩, rfl, by intro u hu; simp at hu; subst hu; rfl⟩
    · show Reps _ _ _ [AV.im true sz (l.map (·.1)).length (.recs sz (l.map (·.1)).length (fun i => f ((l.map (·.1)).getD i z)))] _
      rw [List.length_map]
      refine .cons (.im (cs := (List.range l.length).flatMap us) hl (fun hz => ?_) (.recs us (fun i hi => ?_) (fun i hi => ?_) hf2 hf1) hf1 (fun u hu => ?_) (fun e => by cases e) (fun e => by cases e)) .nil
      · have h0 : ∃ u, (us 0)[0]? = some u := by
          have : (us 0).length = sz := by rw [hui 0 (by omega)]; exact (hp 0 (by omega)).2.2.2.1
          exact ⟨_, List.getElem?_eq_getElem (by omega)⟩
        obtain ⟨u, hu⟩ := h0
        have hc0 := hcell 0 0 u (by omega) hsz hu
        rw [Nat.zero_mul, show a.add (0 + 0) = a from rfl] at hc0
        have hs := spot_none hc0
        refine ⟨a.block, a.off, ?_, cell_lt hc0, fun j v hv => ?_⟩
        · cases a; simp at hs; subst hs; rfl
        · have hj := lt_of_get hv
          rw [hf1] at hj
          have hjs : j = j / sz * sz + j % sz := by rw [Nat.mul_comm]; exact (Nat.div_add_mod j sz).symm
          have hji : j / sz < l.length := Nat.div_lt_of_lt_mul (by rw [Nat.mul_comm]; exact hj)
          have hjo : j % sz < sz := Nat.mod_lt _ hsz
          rw [hjs] at hv
          rw [hf2 _ _ hji hjo] at hv
          have := hcell _ _ v hji hjo hv
          rw [← this, ← hjs]
          congr 1
          unfold Addr.add
          split
          · subst_vars; cases a; simp at hs; subst hs; rfl
          · rfl
      · obtain ⟨hi', e⟩ := hgd i hi
        rw [e, hui i hi']
        exact (hp i hi').2.1
      · rw [hui i hi]; exact (hp i hi).2.2.2.1
      · rw [List.mem_flatMap] at hu
        obtain ⟨i, hi, hu⟩ := hu
        rw [List.mem_range] at hi
        rw [hui i hi] at hu
        exact (hp i hi).2.2.2.2 u hu
    · rw [List.mem_map] at hy
      obtain ⟨q, hq, rfl⟩ := hy
      obtain ⟨i, hi, rfl⟩ := List.getElem_of_mem hq
      exact (hp i hi).2.2.1.1
    · have := hbk.slice H ((List.range l.length).map D) ((List.range (m - l.length)).map fun j => D (l.length + j))
      rw [hxe]
      refine Nat.le_trans (Nat.le_trans ?_ (Nat.le_succ _)) this
      show ((l.map (·.1)).map μ).sum ≤ _
      rw [List.map_map, List.map_map]
      exact sum_le l D l.length (fun i hi => (hp i hi).2.2.1.2)
/-- Fields from a place on, to the end, with the bulk of what they are read as. -/
def ATbs {α : Type} (bk : (H : Type) → DataW H → Nat) (P : Program) (fs : List Field) (off sz : Nat) (f : α → List AV) (G : α → Prop) (μ : α → Nat) : Prop :=
  ∀ (H : Type) (enc : TypeId × Value → H) (w : World) (base : Nat) (spare : Nat → Bool) (held : Bool) (n : Nat) (cs : List Value) (xs : List (DataW H × List MemPlace)), cs.length = off + sz → xs.length = fs.length →
    (∀ (i : Nat) fl, fs[i]? = some fl → DataW.trod enc P w base spare held n fl.type ((cs.drop fl.offset).take (P.cellsOf fl.type)) = xs[i]?) → ∃ y, Reps (fun _ => none) (J1 w) w (f y) (cs.drop off) ∧ (G y ∧ μ y ≤ (xs.map (fun x => bk H x.1)).sum) ∧ ∀ u ∈ cs.drop off, u.oneCell' = true
theorem ATbs.last {α : Type} {P : Program} {fl : Field} {off sz : Nat} {f : α → List AV} {G : α → Prop} {μ : α → Nat} (h : ATb bk P fl.type sz f G μ) (ho : fl.offset = off) (hc : P.cellsOf fl.type = sz) : ATbs bk P [fl] off sz f G μ := by
  intro H enc w base spare held n cs xs hlen hxl hall
  match xs, hxl with
  | [x], _ =>
    have hy := hall 0 fl rfl
    obtain ⟨z, hk, ⟨hg, hm⟩, _, h1⟩ := h H enc w base spare held n _ _ hy
    rw [ho, hc, List.take_of_length_le (by simp; omega)] at hk h1
    exact ⟨z, hk, ⟨hg, by simpa using hm⟩, h1⟩
theorem ATbs.cons {α β : Type} {P : Program} {fl : Field} {fs : List Field} {off sz sz' : Nat} {a : α → List AV} {b : β → List AV} {G : α → Prop} {G' : β → Prop} {μ : α → Nat} {μ' : β → Nat} (h : ATb bk P fl.type sz a G μ) (ho : fl.offset = off) (hc : P.cellsOf fl.type = sz)
    (hr : ATbs bk P fs (off + sz) sz' b G' μ') : ATbs bk P (fl :: fs) off (sz + sz') (fun x : α × β => a x.1 ++ b x.2) (fun x => G x.1 ∧ G' x.2) (fun x => μ x.1 + μ' x.2) := by
  intro H enc w base spare held n cs xs hlen hxl hall
  match xs, hxl with
  | x :: xs, hxl =>
    have hy := hall 0 fl rfl
    obtain ⟨z, hk, ⟨hg, hm⟩, _, h1⟩ := h H enc w base spare held n _ _ hy
    obtain ⟨z', hk', ⟨hg', hm'⟩, h1'⟩ := hr H enc w base spare held n cs xs (by omega) (by simpa using hxl) (fun i g hg => hall (i + 1) g hg)
    rw [ho, hc] at hk h1
    have e : cs.drop off = (cs.drop off).take sz ++ cs.drop (off + sz) := by rw [← List.drop_drop]; exact (List.take_append_drop _ _).symm
    refine ⟨(z, z'), ?_, ⟨⟨hg, hg'⟩, ?_⟩, ?_⟩
    · rw [e]; exact hk.append hk'
    · simp only [List.map_cons, List.sum_cons]; exact Nat.add_le_add hm hm'
    · intro u hu
      rw [e] at hu
      rcases List.mem_append.1 hu with hu | hu
      · exact h1 u hu
      · exact h1' u hu
theorem ATb.struct {α : Type} {P : Program} {t : TypeId} {fs : Array Field} {sz : Nat} {f : α → List AV} {G : α → Prop} {μ : α → Nat} (hbk : Bulk bk) (hu : P.underlying t = some (.struct fs)) (hc : P.cellsOf t = sz) (h : ATbs bk P fs.toList 0 sz f G μ) : ATb bk P t sz f G μ := by
  intro H enc w base spare held fuel cs x hx
  obtain ⟨xs, n, _, rfl, hl, hlen, hf⟩ := DataW.trod_struct hu hx
  obtain ⟨y, hk, ⟨hg, hm⟩, h1⟩ := h H enc w base spare held n cs xs (by omega) (by simpa using hlen) (fun i fl hm => hf i fl (by simpa using hm))
  have := hbk.agg H (xs.map (·.1))
  rw [List.map_map] at this
  exact ⟨y, by simpa using hk, ⟨hg, Nat.le_trans hm (Nat.le_trans (Nat.le_succ _) this)⟩, by omega, by simpa using h1⟩
/-- A law's argument that is a struct, with its bulk. -/
theorem arg_structb {α : Type} {P : Program} {t : TypeId} {fs : Array Field} {sz : Nat} {f : α → List AV} {G : α → Prop} {μ : α → Nat} (hu : P.underlying t = some (.struct fs)) (he : ATb bk P t sz f G μ)
    {H : Type} {enc : TypeId × Value → H} {w : World} {base : Nat} {spare : Nat → Bool} {held : Bool} {r : Reach} {b0 : Nat} {v : Value} {x : DataW H} {p : List MemPlace}
    (hv : Value.okWide P w r b0 t v) (h : DataW.Trod enc P w base spare held t v x p) : ∃ y, Reps (fun _ => none) (J1 w) w [.agg (f y)] [v] ∧ G y ∧ μ y ≤ bk H x := by
  obtain ⟨cs, rfl, hsz⟩ := okWide_struct hu hv
  obtain ⟨fuel, hf⟩ := h
  obtain ⟨y, h1, h2, _⟩ := he H enc w base spare held fuel _ _ hf
  refine ⟨y, .cons ?_ .nil, h2⟩
  have : Reps (fun _ => none) (J1 w) w (f y) cs.toList := by simpa [Value.cells] using h1
  have := Rep.agg this
  simpa using this
end
end Go.Proofs.Ytjccknmgmommcaa.Sx

