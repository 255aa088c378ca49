/- slices.SortFunc at []api.Ext, under extent.Norm's own comparison: the row holds a permutation, sorted by From. -/
import Derived.Test.YtpmhlomilobgaaaExtM
import Derived.Test.YtpmhlomilobgaaaExtShelf
import Derived.Shelf.SlSortCmp.WholeK
import Derived.Shelf.SlSortCmp.NoneTotal
set_option linter.unusedVariables false
set_option linter.unusedSimpArgs false
namespace Go.Proofs.Ytpmhlomilobgaaa.ExtS
open Go.RowKit Go.Proofs.Ytpmhlomilobgaaa.PExt Go.Proofs.Ytpmhlomilobgaaa.ExtM Go.Proofs.YtpmhlomilobgaaaW.PrintWords
open Go.Sort (SWO PermIn SortedIn HoldsK flatK grow putRowK)

instance : Inhabited S65 := ⟨z65⟩
def enc2 (x : S65) : List Value := [.int .i64 x.f0, .int .i64 x.f1]
def flat : List S65 → List Value
  | [] => []
  | x :: r => .int .i64 x.f0 :: .int .i64 x.f1 :: flat r
theorem flat_length : ∀ l, (flat l).length = l.length * 2
  | [] => rfl
  | x :: r => by simp [flat, flat_length r]; omega
theorem reps_flat {w : World} {base : Nat} {ok : Nat → Prop} : ∀ {l : List S65} {cs : List Value}, Reps (k65.M w base ok) 2 l cs → cs = flat l
  | [], cs, h => by
    have := h.1
    simp at this
    subst this
    rfl
  | x :: r, cs, h => by
    have hl := h.1
    rcases cs with _ | ⟨a, _ | ⟨b, cs⟩⟩
    · simp at hl
    · simp at hl; omega
    · have h0 := k65_openM (h.2 0 x rfl)
      simp at h0
      obtain ⟨rfl, rfl⟩ := h0
      rw [flat, ← reps_flat (l := r) (cs := cs) ⟨by simp at hl; omega, fun j p hj => by
        have := h.2 (j + 1) p (by simpa using hj)
        rw [Nat.add_mul, Nat.one_mul] at this
        simpa using this⟩]
theorem flat_reps {w : World} {base : Nat} {ok : Nat → Prop} : ∀ (l : List S65), Reps (k65.M w base ok) 2 l (flat l)
  | [] => Reps.none _ _
  | x :: r => ⟨by simp [flat_length, flat]; omega, fun j p hj => by
      cases j with
      | zero =>
        have : x = p := by simpa using hj
        subst this
        exact k65_mkM w base ok x
      | succ j =>
        have := (flat_reps (w := w) (base := base) (ok := ok) r).2 j p (by simpa using hj)
        rw [Nat.add_mul, Nat.one_mul]
        simpa [flat] using this⟩
theorem flat_get : ∀ (l : List S65) (t : Nat), t < l.length * 2 → (flat l)[t]? = some ((enc2 (l[t / 2]?.getD z65))[t % 2]?.getD default)
  | [], t, h => by simp at h
  | x :: r, 0, _ => rfl
  | x :: r, 1, _ => rfl
  | x :: r, t + 2, h => by
    have e1 : (t + 2) / 2 = t / 2 + 1 := by omega
    have e2 : (t + 2) % 2 = t % 2 := by omega
    rw [e1, e2]
    simp only [flat, List.getElem?_cons_succ]
    exact flat_get r t (by simp at h; omega)
theorem flatK_get (d : Array S65) (t : Nat) (h : t < d.size * 2) : (flatK enc2 2 d)[t]! = (enc2 (d.toList[t / 2]?.getD z65))[t % 2]?.getD default := by
  rw [Sort.get_flatK _ _ _ _ h]
  have : d[t / 2]! = d.toList[t / 2]?.getD z65 := by
    have hh : t / 2 < d.size := by omega
    rw [getElem!_pos d _ hh]
    simp [hh]
  rw [this]
  generalize enc2 _ = e
  simp [List.getElem!_eq_getElem?_getD]

theorem ltF (x y : S65) : ltOf (fun x y : S65 => Lib.compareInt x.f0 y.f0) x y = decide (x.f0 < y.f0) := by
  unfold ltOf Lib.compareInt
  by_cases h1 : x.f0 < y.f0
  · simp [h1]
  · by_cases h2 : y.f0 < x.f0 <;> simp [h1, h2]
theorem swoF : SWO (ltOf fun x y : S65 => Lib.compareInt x.f0 y.f0) where
  irrefl x := by rw [ltF]; simp
  trans x y z h1 h2 := by rw [ltF] at *; simp at *; omega
  ntrans x y z h1 h2 := by rw [ltF] at *; simp at *; omega

set_option maxHeartbeats 1000000 in
/-- extent.Norm's comparison, in whatever world: two blocks are laid. -/
theorem cmp_c (x y : S65) (W : World) : Calls Try.prog 78 #[.agg #[.int .i64 x.f0, .int .i64 x.f1], .agg #[.int .i64 y.f0, .int .i64 y.f1]] W fun e w' => e = .returned (.int .i64 (Lib.compareInt x.f0 y.f0)) ∧ ∃ q os', w' = grow (W.drewN q) os' := by
  have hcon := fun W' => AnyG.cmp_Compare_int Try.cmpInt x.f0 y.f0 W'
  change ∀ W', Calls Try.prog 79 _ _ _ at hcon
  generalize Lib.compareInt x.f0 y.f0 = r at hcon ⊢
  go_enter Try.func78, Try.ntmps78
  go_wp2_with (go_at_call 79; refine (hcon _).mono ?_; rintro e w' ⟨rfl, rfl⟩)
  go_ret
  exact ⟨rfl, 0, _, by rw [Sort.alloc_eq_grow, Sort.alloc_eq_grow, Sort.grow_grow]; rfl⟩

theorem heap_sort {blk off n : Nat} {w : World} {d' : Array S65} {os : Array Obj} (k : Nat) (hk : k < w.heap.size) : (sortWorldK enc2 2 w blk off n d' os).heap[k]? = if blk = k then (w.heap[k]?).map (Sort.onCells (Sort.putCells id off (flatK enc2 2 d'))) else w.heap[k]? := by
  unfold sortWorldK grow putRowK Sort.putRow Sort.mapBlock Sort.ahead
  rw [Array.getElem?_append]
  simp only [Array.size_modify, hk, if_true]
  rw [Array.getElem?_modify]
theorem below_sort {base blk off n : Nat} {w : World} {d' : Array S65} {os : Array Obj} (hb : base ≤ blk) (hblk : blk < w.heap.size) : Below base w (sortWorldK enc2 2 w blk off n d' os) := by
  refine ⟨rfl, rfl, rfl, by simp [sortWorldK, grow, putRowK, Sort.putRow, Sort.mapBlock, Sort.ahead], fun k hk => ?_⟩
  rw [heap_sort k (by omega), if_neg (by omega)]

set_option maxHeartbeats 1000000 in
/-- slices.SortFunc in extent.Norm. -/
theorem sort_c (l : List S65) (A : Option Addr) (c base : Nat) (w : World) (HO : Kd.R k65 65 w base (fun _ => True) (.slice A l.length c) l) (hlen : l.length < 4611686018427387904) :
    Calls Try.prog 77 #[.slice A l.length c, .func (.func 78) #[] #[]] w fun e w' =>
      e = .returned (.tuple #[]) ∧ ∃ l', l'.Perm l ∧ Srt l' ∧ Kd.R k65 65 w' base (fun _ => True) (.slice A l'.length c) l' ∧ Below base w w' := by
  obtain ⟨h0, inner, ho, hr⟩ := HO
  have hin := reps_flat hr
  subst hin
  rcases ho.2 with ⟨hv, hn⟩ | ⟨g, cap, cur, hv, hg, hh, hnc, hcm, hcs, hct⟩
  · injection hv with h1 h2 h3
    subst h1 h3
    have hl : l = [] := List.eq_nil_of_length_eq_zero hn
    subst hl
    have hcon := AnyF.slices_SortFunc_none Try.sortExt none 0 (.func (.func 78) #[] #[]) w
    change Calls Try.prog 77 _ _ _ at hcon
    refine hcon.mono ?_
    rintro e w' ⟨rfl, rfl⟩
    exact ⟨rfl, [], .refl _, List.Pairwise.nil, Kd.R_nil _ _ _ _ _, Below.refl _ _⟩
  · injection hv with h1 h2 h3
    subst h1 h3
    have hlt : g < w.heap.size := (Array.getElem?_eq_some_iff.1 hh).1
    have hk2 : k65.sz = 2 := rfl
    rw [hk2] at hcs hct
    have hget : ∀ t, t < l.length * 2 → cur[t]? = (flat l)[t]? := fun t ht => by
      rw [← hct, List.getElem?_take, if_pos ht]
      simp
    have hH : HoldsK enc2 2 w g 0 l.toArray := fun t ht => by
      have ht' : t < l.length * 2 := by simpa using ht
      refine ⟨?_, by simp [World.frozen?, hh]⟩
      rw [flatK_get _ _ (by simpa using ht')]
      simp only [World.cell?, hh, Nat.zero_add, Option.isSome_none, Bool.false_eq_true, if_false]
      rw [hget t ht', flat_get l t ht']
      rfl
    have eg : ∀ args w, (callFunc 78 args).run Try.prog w = .ok (.enter 78 args) w := enters_of Try.func78 (by kernel_rfl) rfl
    have hcon := AnyQ.slices_SortFunc Try.sortExt 2 Try.isAgg65 Try.sizeOf65 enc2 (fun _ => rfl) (fun x v hv => by simp [enc2] at hv; rcases hv with rfl | rfl <;> rfl) (fun x y : S65 => Lib.compareInt x.f0 y.f0) swoF 78 #[] g 0 c l.toArray w eg (fun _ _ _ _ x y => cmp_c x y _) hH hlt (by simpa using hlen)
    change Calls Try.prog 77 _ _ _ at hcon
    simp only [List.size_toArray] at hcon
    refine hcon.mono ?_
    rintro e w' ⟨rfl, d', n, os, hp, hs, rfl⟩
    have hsz : d'.size = l.length := by simpa using hp.1
    have hperm : d'.toList.Perm l := by
      have := hp.2.2
      have e2 : d'.extract 0 l.length = d' := by rw [← hsz]; simp
      simpa [e2] using this
    refine ⟨rfl, d'.toList, hperm, ?_, ⟨h0, flat d'.toList, ?_, ?_⟩, below_sort hg hlt⟩
    · refine List.pairwise_iff_getElem.2 fun i j hi hj hij => ?_
      have hi' : i < d'.size := by simpa using hi
      have hj' : j < d'.size := by simpa using hj
      have := hs i j (Nat.zero_le _) hij (by omega)
      rw [ltF, getElem!_pos d' j hj', getElem!_pos d' i hi'] at this
      simp at this
      simpa using this
    · have hl2 : d'.toList.length = l.length := by simpa using hsz
      rw [hl2]
      refine ⟨by rw [flat_length, hl2]; rfl, .inr ⟨g, c, Sort.putCells id 0 (flatK enc2 2 d') cur, rfl, hg, ?_, hnc, hcm, by rw [hk2]; simpa [Sort.putCells] using hcs, ?_⟩⟩
      · rw [heap_sort g hlt, if_pos rfl, hh]
        rfl
      · apply List.ext_getElem?
        intro t
        rw [hk2, List.getElem?_take]
        split
        · rename_i ht
          have hc : t < cur.size := by
            rw [hcs]
            have := Nat.mul_le_mul_right 2 hnc
            omega
          have ht' : t < d'.toList.length * 2 := by rw [hl2]; exact ht
          rw [flat_get _ _ ht', ← flatK_get d' t (by rw [hsz]; exact ht)]
          simp only [Sort.putCells, Array.getElem?_toList, Array.getElem?_mapIdx, Array.getElem?_eq_getElem hc, Option.map_some, Nat.zero_le, true_and, Nat.zero_add, Sort.size_flatK, hsz, id_eq, Nat.sub_zero]
          rw [if_pos ht]
        · rename_i ht
          rw [List.getElem?_eq_none]
          rw [flat_length, hl2]
          exact Nat.le_of_not_lt ht
    · exact flat_reps _
end Go.Proofs.Ytpmhlomilobgaaa.ExtS
