import Derived.Test.YtcfmlnddmpiemaaSxEa
import Derived.Maps.AppendAt
import Derived.Laws.OwnMore
import Derived.Laws.BytesString
import Derived.Lib.ConvBytes
import Derived.Carry
import Derived.MapKept
import Derived.Maps.RangeRun
import Derived.Orders
set_option linter.unusedVariables false
set_option linter.unusedSimpArgs false
namespace Go.Proofs.Ytcfmlnddmpiemaa.Sx
open Go.RowKit
section
variable {P : Program} (T : Tab P)
def evLen (ts : List TypeId) (xs : List AV) (H : List Chunk) (k : K) : Prop :=
  match ts, xs with
  | [t], [x] => match T.td t, x with
    | some (.sl _), .s _ _ _ n _ => k (.v (.int .i64 n)) H
    | some (.sl _), .im _ _ n _ => k (.v (.int .i64 n)) H
    | some (.sl _), .v (.slice _ n _) => k (.v (.int .i64 n)) H
    | some .str, .v (.string s) => k (.v (.int .i64 s.size)) H
    | some (.ar n _), _ => k (.v (.int .i64 n)) H
    | some (.mp _ _), .v (.map none) => k (.v (.int .i64 0)) H
    | _, _ => False
  | _, _ => False
def evMM (mx : Bool) (xs : List AV) (H : List Chunk) (k : K) : Prop :=
  match xs with
  | [.v (.int j a), .v (.int _ b)] => k (.v (.int j (cond mx (max a b) (min a b)))) H
  | _ => False
def Cont.app (c d : Cont) : Option (Prop × Cont) :=
  match c, d with
  | .ints k l, .ints k' l' => cond (decide (k = k')) (some (True, .ints k (l ++ l'))) none
  | .recs s n f, .recs s' m g => cond (Nat.beq s s') (some (True, .recs s (n + m) (fun j => if j < n then f j else g (j - n)))) none
  | .recs _ n _, .ints k l => cond (Nat.beq n 0) (some (True, .ints k l)) none
  | _, _ => none
/-- What is appended, or copied. -/
def srcOf (sz : Nat) (x : AV) (H : List Chunk) : Option (Prop × Nat × Cont) :=
  match x with
  | .s i e s n c => match nth H i with
    | some (.blk _ c0 _) => cond (Nat.beq s sz) (match c0.ext sz e n with
      | some (ψ, d) => some (ψ, n, d)
      | none => none) none
    | _ => none
  | .im _ s n c => cond (Nat.beq s sz) (some (True, n, c)) none
  | _ => none
def evAppTo (e : TypeId) (sz by_ : Nat) (x : AV) (m : Nat) (d : Cont) (H : List Chunk) (k : K) : Prop :=
  match x with
  | .v (.slice none 0 0) => VC (m * by_ ≤ 140737488355328 ∧ 0 < sz ∧ 0 < by_) ∧ ∀ cap, m ≤ cap → k (.s H.length 0 sz m cap) (H ++ [.blk e d (cap * sz)])
  | .s i 0 s n c => match nth H i with
    | some (.blk e' c0 cp) => match c0.app d with
      | some (ψ, c1) => VC ((s = sz ∧ e' = e ∧ c0.cells = n * sz ∧ cp = c * sz) ∧ ψ ∧ (n + m) * by_ ≤ 140737488355328 ∧ 0 < sz ∧ 0 < by_) ∧ ∀ cap, n + m ≤ cap → k (.s H.length 0 sz (n + m) cap) (H.set i .dead ++ [.blk e c1 (cap * sz)])
      | none => False
    | _ => False
  | _ => False
def evAppend (ts : List TypeId) (xs : List AV) (H : List Chunk) (k : K) : Prop :=
  match ts, xs with
  | [t, u], [x, y] => match T.td t with
    | some (.sl e) => match T.ti e with
      | some (z, sz, by_) => match T.td u with
        | some (.sl _) => match srcOf sz y H with
          | some (ψ, m, d) => VC ψ ∧ evAppTo e sz by_ x m d H k
          | none => False
        | some (.int _) => match y with
          | .v (.int _ j) => match zrep z sz j.toNat with
            | some d => VC (0 ≤ j) ∧ evAppTo e sz by_ x j.toNat d H k
            | none => False
          | _ => False
        | _ => False
      | none => False
    | _ => False
  | _, _ => False
end
section
variable {P : Program} {T : Tab P} {w0 : World} {M : Nat → Prop} {J0 : B0} {J : Bool → Nat → Prop} {ρ : Nat → Option Nat} {φ : Nat → Nat → Prop} {H : List Chunk} {w : World}
theorem evLen_ok (hs : Sat w0 M J0 J ρ φ H w) {ts : List TypeId} {xs : List AV} {us : List Value} (hx : Reps ρ J w xs us) {k : K} (h : evLen T ts xs H k) (ty : TypeId) : Quiet1 P J ρ H w (Builtin.len_ ts.toArray ty us.toArray) k := by
  unfold evLen at h
  split at h
  · cases hx with
    | cons hx hn =>
    cases hn
    split at h
    · rename_i e i e0 sz n c htd
      cases hx
      exact .same (fun w' _ => by simp [Builtin.len_, run_underlying (show P.underlying _ = some (.slice e) from T.hd _ _ htd)]; rfl) h (.v _)
    · rename_i e g sz n c htd
      cases hx
      exact .same (fun w' _ => by simp [Builtin.len_, run_underlying (show P.underlying _ = some (.slice e) from T.hd _ _ htd)]; rfl) h (.v _)
    · rename_i e a n c htd
      cases hx
      exact .same (fun w' _ => by simp [Builtin.len_, run_underlying (show P.underlying _ = some (.slice e) from T.hd _ _ htd)]; rfl) h (.v _)
    · rename_i s htd
      cases hx
      exact .same (fun w' _ => by simp [Builtin.len_, run_underlying (show P.underlying _ = some .string from T.hd _ _ htd)]; rfl) h (.v _)
    · rename_i n e htd
      exact .same (fun w' _ => by simp [Builtin.len_, run_underlying (show P.underlying _ = some (.array n e) from T.hd _ _ htd)]; rfl) h (.v _)
    · rename_i a b htd
      cases hx
      exact .same (fun w' _ => by simp [Builtin.len_, run_underlying (show P.underlying _ = some (.map a b) from T.hd _ _ htd)]; rfl) h (.v _)
    · exact absurd h id
  · exact absurd h id
theorem evMM_ok (hs : Sat w0 M J0 J ρ φ H w) {mx : Bool} {ts : Array TypeId} {xs : List AV} {us : List Value} (hx : Reps ρ J w xs us) {k : K} (h : evMM mx xs H k) (ty : TypeId) :
    Quiet1 P J ρ H w (cond mx (Builtin.max_ ts ty us.toArray) (Builtin.min_ ts ty us.toArray)) k := by
  unfold evMM at h
  split at h
  · rename_i j a j' b
    cases hx with
    | cons hx hn =>
    cases hn with
    | cons hy hn =>
    cases hn; cases hx; cases hy
    cases mx
    · refine .same (u := .int j (min a b)) (fun w' _ => ?_) h (.v _)
      simp only [cond_false, Builtin.min_, List.foldlM_cons, List.foldlM_nil, Builtin.min2]
      simp
      by_cases h : b < a
      · rw [if_pos h, Int.min_eq_right (by omega)]
      · rw [if_neg h, Int.min_eq_left (by omega)]
    · refine .same (u := .int j (max a b)) (fun w' _ => ?_) h (.v _)
      simp only [cond_true, Builtin.max_, List.foldlM_cons, List.foldlM_nil, Builtin.max2]
      simp
      by_cases h : a < b
      · rw [if_pos h, Int.max_eq_right (by omega)]
      · rw [if_neg h, Int.max_eq_left (by omega)]
  · exact absurd h id
theorem Cont.app_ok {c d c1 : Cont} {cs ds : List Value} {ψ : Prop} (hc : Cells ρ J w c cs) (hd : Cells ρ J w d ds) (h : c.app d = some (ψ, c1)) (hψ : ψ) : Cells ρ J w c1 (cs ++ ds) := by
  unfold Cont.app at h
  split at h
  · rename_i k l k' l'
    cases hdk : decide (k = k')
    · rw [hdk] at h; cases h
    rw [hdk] at h
    have hdk := of_decide_eq_true hdk
    subst hdk
    simp only [cond_true, Option.some.injEq, Prod.mk.injEq] at h
    obtain ⟨rfl, rfl⟩ := h
    cases hc; cases hd
    rw [← List.map_append]; exact .ints
  · rename_i s n f s' m g
    cases hb : Nat.beq s s'
    · rw [hb] at h; cases h
    · rw [hb] at h
      have := Nat.eq_of_beq_eq_true hb
      subst this
      simp only [cond_true, Option.some.injEq, Prod.mk.injEq] at h
      obtain ⟨rfl, rfl⟩ := h
      cases hc with
      | recs us hr hz hcs hl =>
        cases hd with
        | recs vs hr' hz' hcs' hl' =>
          refine .recs (fun j => if j < n then us j else vs (j - n)) (fun i hi => ?_) (fun i hi => ?_) (fun i o hi ho => ?_) (by rw [List.length_append, hl, hl', Nat.add_mul])
          · by_cases h : i < n
            · simp only [if_pos h]; exact hr i h
            · simp only [if_neg h]; exact hr' _ (by omega)
          · by_cases h : i < n
            · simp only [if_pos h]; exact hz i h
            · simp only [if_neg h]; exact hz' _ (by omega)
          · by_cases h : i < n
            · simp only [if_pos h]
              have := seg_lt h ho
              rw [List.getElem?_append_left (by omega)]
              exact hcs i o h ho
            · simp only [if_neg h]
              have e : i * s + o = n * s + ((i - n) * s + o) := by
                obtain ⟨q, rfl⟩ : ∃ q, i = n + q := ⟨i - n, by omega⟩
                rw [Nat.add_sub_cancel_left, Nat.add_mul]; omega
              rw [List.getElem?_append_right (by omega), hl, e, Nat.add_sub_cancel_left]
              exact hcs' _ o (by omega) ho
  · rename_i s n f k l
    cases hb : Nat.beq n 0
    · rw [hb] at h; cases h
    · rw [hb] at h
      have := Nat.eq_of_beq_eq_true hb
      subst this
      simp only [cond_true, Option.some.injEq, Prod.mk.injEq] at h
      obtain ⟨rfl, rfl⟩ := h
      cases hc with
      | recs us hr hz hcs hl =>
        have : cs = [] := List.eq_nil_of_length_eq_zero (by rw [hl, Nat.zero_mul])
        rw [this, List.nil_append]; exact hd
  · cases h
end
end Go.Proofs.Ytcfmlnddmpiemaa.Sx


namespace Go.Proofs.Ytcfmlnddmpiemaa.Sx
open Go.RowKit
section
variable {P : Program} {T : Tab P} {w0 : World} {M : Nat → Prop} {J0 : B0} {J : Bool → Nat → Prop} {ρ : Nat → Option Nat} {φ : Nat → Nat → Prop} {H : List Chunk} {w : World}
theorem app_types {t u ty e e' : TypeId} (ht : P.underlying t = some (.slice e)) (hu : P.underlying u = some (.slice e')) (v x : Value) : (Builtin.append_ #[t, u] ty #[v, x]).run P w = (Builtin.append_ #[t, t] ty #[v, x]).run P w := by
  unfold Builtin.append_
  simp only [List.getElem?_toArray, List.getElem?_cons_zero, List.getElem?_cons_succ, Sem.run_bind, run_underlying ht, Result.andThen_ok]
  cases v <;> try rfl
  simp only [Sem.run_bind]
  congr 1
  funext size w1
  rw [run_underlying hu, run_underlying ht]
  rfl
theorem run_app_zeros (w : World) (base : Nat) (t ti ty e : TypeId) (i : TypeInfo) (z : Value) (size bytes : Nat) (ht : P.underlying t = some (.slice e)) {k : IntKind} (hti : P.underlying ti = some (.int k)) (hi : P.info? e = some i) (hz : i.zero = some z)
    (hsize : i.size = size) (hby : i.bytes = bytes) (hzs : z.cells.size = size) (hsz : 0 < size) (hb0 : 0 < bytes)
    (v : Value) (n : Nat) (xs : List Value) (hown : w.ownsRow base e size v n xs) (kx : IntKind) (m : Nat) (h1 : ∀ u ∈ (Builtin.zeroCells z.cells m).toList, u.oneCell' = true)
    (hbytes : (n + m) * bytes ≤ 140737488355328) (hbase : base ≤ w.heap.size) :
    ∃ v' w', (Builtin.append_ #[t, ti] ty #[v, .int kx m]).run P w = .ok v' w' ∧ w'.ownsRow base e size v' (n + m) (xs ++ (Builtin.zeroCells z.cells m).toList) ∧ w.grownBy w' v.ownBlock ∧
      (v'.ownBlock = v.ownBlock ∨ v'.ownBlock = some w.heap.size) := by
  subst hsize
  subst hby
  have hle : n + m ≤ 140737488355328 := Nat.le_trans (Nat.le_mul_of_pos_right _ hb0) hbytes
  have h63 : n + m ≤ maxLen := by simp only [maxLen]; omega
  have hw : IntKind.i64.wrap (m : Int) = m := by rw [IntKind.wrap_i64]; omega
  have hw0 : IntKind.i64.wrap 0 = 0 := by rw [IntKind.wrap_i64]; rfl
  have hneg : ¬ ((m : Int) < 0) := by omega
  have hmb : m * i.bytes ≤ 140737488355328 := Nat.le_trans (Nat.mul_le_mul_right _ (Nat.le_add_left m n)) hbytes
  have hbig : ¬ (281474976710656 < (m : Int) * (i.bytes : Int)) := by
    rw [← Int.natCast_mul]
    omega
  have hsn : i.size ≠ 0 := by omega
  obtain ⟨news, hnews⟩ : ∃ news, news = (Builtin.zeroCells z.cells m).toList := ⟨_, rfl⟩
  rw [← hnews] at h1 ⊢
  have hl : news.length = m * i.size := by rw [hnews, Array.length_toList, size_zeroCells, hzs]
  have hna : Builtin.zeroCells z.cells m = news.toArray := by rw [hnews]
  have hlen : (xs ++ news).length = (n + m) * i.size := by rw [List.length_append, hown.1, hl, Nat.add_mul]
  have hnil : m = 0 → news = [] := fun h => List.eq_nil_of_length_eq_zero (by rw [hl, h, Nat.zero_mul])
  have grown : ∀ (old : Nat), old < n + m → ∀ (row : Option Nat),
      (w.drew.alloc (.cells (xs.toArray ++ news.toArray ++ Builtin.zeroCells z.cells (grownCap w (n + m) old e - (n + m))) e)).ownsRow base e i.size
        (.slice (some ⟨w.heap.size, 0, none⟩) (n + m) (grownCap w (n + m) old e)) (n + m) (xs ++ news) ∧
      w.grownBy (w.drew.alloc (.cells (xs.toArray ++ news.toArray ++ Builtin.zeroCells z.cells (grownCap w (n + m) old e - (n + m))) e)) row := by
    intro old ho row
    have hge := grownCap_ge w (n + m) old e
    have hcm : grownCap w (n + m) old e ≤ maxLen := grownCap_le_maxLen w (n + m) old e h63
    refine ⟨⟨hlen, .inr ⟨w.heap.size, _, _, rfl, hbase, heap_alloc_new w.drew _, hge, hcm, ?_, ?_⟩⟩, ⟨rfl, rfl, rfl, by simp, fun k hk _ => by show (w.heap.push _)[k]? = _; rw [Array.getElem?_push, if_neg (by omega)]⟩⟩
    · simp only [Array.size_append, List.size_toArray, size_zeroCells, hzs, hown.1, hl, ← Nat.add_mul]
      congr 1
      omega
    · simp only [Array.toList_append, List.append_assoc]
      rw [← List.append_assoc, ← hlen]
      exact List.take_left
  have runs : ∀ (A : Option Addr) (cap : Nat), cap < n + m → (Builtin.firstCells i.size n (.slice A n cap)).run P w.drew = .ok xs.toArray w.drew → (Builtin.append_ #[t, ti] ty #[.slice A n cap, .int kx m]).run P w =
      .ok (.slice (some ⟨w.heap.size, 0, none⟩) (n + m) (grownCap w (n + m) cap e)) (w.drew.alloc (.cells (xs.toArray ++ news.toArray ++ Builtin.zeroCells z.cells (grownCap w (n + m) cap e - (n + m))) e)) := by
    intro A cap hcap hfo
    have hn : ¬ (n + m ≤ cap) := by omega
    have h63' : ¬ (9223372036854775807 < ((n : Int) + (m : Int))) := by omega
    have hfit := growslice_fits hcap hbytes
    have h48' : ¬ (281474976710656 < Builtin.nextslicecap (n + m) cap * i.bytes) := by omega
    by_cases hm : m = 0
    · have hnl := hnil hm
      subst hm
      rw [hnl]
      simp only [Nat.add_zero] at hn h63' h48' ⊢
      have h63'' : ¬ (9223372036854775807 < (n : Int)) := by omega
      simp [Builtin.append_, run_underlying ht, run_underlying hti, sizeOf, typeInfo, zeroValue, hi, hz, asInt, asIntOf, hw0, hn, h63'', h48', Question.forced, hfo, newRow, grownCap]
    · have hmz : ¬ (m * i.size = 0) := Nat.mul_ne_zero hm hsn
      simp [Builtin.append_, run_underlying ht, run_underlying hti, sizeOf, typeInfo, zeroValue, hi, hz, asInt, asIntOf, hw, hneg, hbig, hn, h63', h48', Question.forced, hfo, newRow, grownCap, hmz, hna]
      congr 2
      apply Array.ext'
      simp [List.append_assoc]
  rcases hown.2 with ⟨rfl, rfl⟩ | ⟨g, cap, cur, rfl, hbg, hg, hnc, hcm, hcs, htake⟩
  · have hx : xs = [] := List.eq_nil_of_length_eq_zero (by simpa using hown.1)
    subst hx
    by_cases hm : m = 0
    · have hnl := hnil hm
      subst hm
      rw [hnl]
      refine ⟨.slice none 0 0, w, ?_, World.ownsRow_nil w base e i.size, ⟨rfl, rfl, rfl, Nat.le_refl _, fun _ _ _ => rfl⟩, Or.inl rfl⟩
      simp [Builtin.append_, run_underlying ht, run_underlying hti, sizeOf, typeInfo, hi, asInt, asIntOf, hw0]
    · have hgr := grown 0 (by omega) (Value.ownBlock (.slice none 0 0))
      exact ⟨_, _, runs none 0 (by omega) (by simp [Builtin.firstCells]), hgr.1, hgr.2, Or.inr rfl⟩
  · by_cases hroom : n + m ≤ cap
    · have hfit : n * i.size + news.length ≤ cur.size := by rw [hl, hcs, ← Nat.add_mul]; exact Nat.mul_le_mul_right _ hroom
      have hst := run_storeCells_at (P := P) g (n * i.size) e news 0 cur w hg (by simpa using hfit) h1
      simp only [Nat.add_zero] at hst
      have h6 : cur.toList.take (n * i.size) = xs := htake
      rw [h6] at hst
      have hz1 : ((xs ++ news ++ cur.toList.drop (n * i.size + news.length)).toArray).size = cap * i.size := by
        have := hown.1
        simp only [List.size_toArray, List.length_append, List.length_drop, Array.length_toList]
        omega
      refine ⟨.slice (some ⟨g, 0, none⟩) (n + m) cap, w.setRow g (xs ++ news ++ cur.toList.drop (n * i.size + news.length)).toArray, ?_, ⟨hlen, .inr ⟨g, cap, _, rfl, hbg, setRow_heap w g cur _ e _ hg, hroom, hcm, hz1, ?_⟩⟩, ⟨rfl, rfl, rfl, by simp, fun k _ hk => setRow_other w g k _ (fun e => hk (by simp [Value.ownBlock, e]))⟩, Or.inl rfl⟩
      · have hadd : (⟨g, 0, none⟩ : Addr).add (n * i.size) = ⟨g, n * i.size, none⟩ := by rw [Addr.add_mid, Nat.zero_add]
        by_cases hm : m = 0
        · have hnl := hnil hm
          subst hm
          rw [hnl] at hst ⊢
          have hst' : (storeCells ⟨g, n * i.size, none⟩ []).run P w = .ok () (w.setRow g (xs ++ cur.toList.drop (n * i.size)).toArray) := by simpa using hst
          simp [Builtin.append_, run_underlying ht, run_underlying hti, sizeOf, typeInfo, hi, asInt, asIntOf, hw0, hnc, hadd]
          rw [hst']; rfl
        · have hmz : ¬ (m * i.size = 0) := Nat.mul_ne_zero hm hsn
          simp [Builtin.append_, run_underlying ht, run_underlying hti, sizeOf, typeInfo, zeroValue, hi, hz, asInt, asIntOf, hw, hneg, hbig, hroom, hmz, hna, hadd, hst]
      · simp only []
        rw [← hlen, List.append_assoc, ← List.append_assoc]
        exact List.take_left
    · have holds : ∀ j u, xs[j]? = some u → w.cell? ((⟨g, 0, none⟩ : Addr).add j) = some u := hown.cells (g := g) rfl
      have hgr := grown cap (by omega) (Value.ownBlock (.slice (some ⟨g, 0, none⟩) n cap))
      exact ⟨_, _, runs (some ⟨g, 0, none⟩) cap (by omega) (run_firstCells_some (P := P) w.drew i.size n _ n cap xs hown.1 (by simpa using holds)), hgr.1, hgr.2, Or.inr rfl⟩
/-- What comes to be appended. -/
inductive AppSrc (P : Program) (w : World) (size : Nat) (z : Value) : TypeId → Value → Nat → List Value → Prop where
  | some {u e' : TypeId} {a : Addr} {m c : Nat} {news : List Value} (hu : P.underlying u = some (.slice e')) (hl : news.length = m * size) (h : ∀ j v, news[j]? = some v → w.cell? (a.add j) = some v) (h1 : ∀ v ∈ news, v.oneCell' = true) : AppSrc P w size z u (.slice (some a) m c) m news
  | none {u e' : TypeId} (hu : P.underlying u = some (.slice e')) : AppSrc P w size z u (.slice none 0 0) 0 []
  | zeros {u : TypeId} {k kx : IntKind} {m : Nat} (hu : P.underlying u = some (.int k)) (h1 : ∀ u ∈ (Builtin.zeroCells z.cells m).toList, u.oneCell' = true) : AppSrc P w size z u (.int kx m) m (Builtin.zeroCells z.cells m).toList
theorem run_app {t u ty e : TypeId} {i : TypeInfo} {z : Value} {size bytes : Nat} (ht : P.underlying t = some (.slice e)) (hi : P.info? e = some i) (hz : i.zero = some z)
    (hsize : i.size = size) (hby : i.bytes = bytes) (hzs : z.cells.size = size) (hsz : 0 < size) (hb0 : 0 < bytes) {v x : Value} {n m : Nat} {xs news : List Value} (hown : w.ownsRow 0 e size v n xs) (hsrc : AppSrc P w size z u x m news)
    (hbytes : (n + m) * bytes ≤ 140737488355328) :
    ∃ v' w', (Builtin.append_ #[t, u] ty #[v, x]).run P w = .ok v' w' ∧ w'.ownsRow 0 e size v' (n + m) (xs ++ news) ∧ w.grownBy w' v.ownBlock ∧ (v'.ownBlock = v.ownBlock ∨ v'.ownBlock = some w.heap.size) := by
  have hle : n + m ≤ 140737488355328 := Nat.le_trans (Nat.le_mul_of_pos_right _ hb0) hbytes
  cases hsrc with
  | some hu hl h h1 =>
    obtain ⟨v', w', e1, e2, e3, _, e5⟩ := run_append_own_at (P := P) (w := w) 0 t ty e i z size bytes ht hi hz hsize hby hzs hsz v n xs hown _ m _ news hl h h1 (by unfold maxLen; omega) hbytes (Nat.zero_le _)
    exact ⟨v', w', by rw [app_types ht hu]; exact e1, e2, e3, e5⟩
  | none hu =>
    have e1 := run_append_owned_none (P := P) (w := w) 0 t ty e i size ht hi v n xs hown
    exact ⟨v, w, by rw [app_types ht hu]; exact e1, by simpa using hown, ⟨rfl, rfl, rfl, Nat.le_refl _, fun _ _ _ => rfl⟩, .inl rfl⟩
  | zeros hu h1 => exact run_app_zeros w 0 t u ty e i z size bytes ht hu hi hz hsize hby hzs hsz hb0 v n xs hown _ m h1 hbytes (Nat.zero_le _)
theorem run_app0 {t u ty e : TypeId} {i : TypeInfo} {z : Value} {size bytes : Nat} (ht : P.underlying t = some (.slice e)) (hi : P.info? e = some i) (hz : i.zero = some z)
    (hsize : i.size = size) (hby : i.bytes = bytes) (hzs : z.cells.size = size) (hsz : 0 < size) (hb0 : 0 < bytes) {ad : Addr} {x : Value} {m : Nat} {news : List Value} (hsrc : AppSrc P w size z u x m news)
    (hbytes : m * bytes ≤ 140737488355328) :
    ∃ v' w', (Builtin.append_ #[t, u] ty #[.slice (some ad) 0 0, x]).run P w = .ok v' w' ∧ w.grownBy w' none ∧ ((m = 0 ∧ v' = .slice (some ad) 0 0) ∨ (w'.ownsRow 0 e size v' m news ∧ v'.ownBlock = some w.heap.size)) := by
  have hle : m ≤ 140737488355328 := Nat.le_trans (Nat.le_mul_of_pos_right _ hb0) hbytes
  by_cases hm : m = 0
  · refine ⟨.slice (some ad) 0 0, w, ?_, ⟨rfl, rfl, rfl, Nat.le_refl _, fun _ _ _ => rfl⟩, .inl ⟨hm, rfl⟩⟩
    cases hsrc with
    | some hu hl h h1 =>
      rename_i e' a c
      subst hm
      have hn : news = [] := List.eq_nil_of_length_eq_zero (by simpa using hl)
      subst hn
      have hf := run_firstCells_some (P := P) w size 0 a 0 c [] (by simp) (by simp)
      simp [Builtin.append_, run_underlying ht, run_underlying hu, sizeOf, typeInfo, hi, Builtin.lenOf, hsize, hf, storeCells]
    | none hu =>
      simp [Builtin.append_, run_underlying ht, run_underlying hu, sizeOf, typeInfo, hi, Builtin.lenOf, Builtin.firstCells, storeCells]
    | zeros hu h1 =>
      subst hm
      have hw0 : IntKind.i64.wrap 0 = 0 := by rw [IntKind.wrap_i64]; rfl
      simp [Builtin.append_, run_underlying ht, run_underlying hu, sizeOf, typeInfo, hi, asInt, asIntOf, hw0, storeCells]
  · have hcm : grownCap w m 0 e ≤ maxLen := grownCap_le_maxLen w m 0 e (by unfold maxLen; omega)
    have hge := grownCap_ge w m 0 e
    have fin : ∀ news' : List Value, news'.length = m * size → (w.drew.alloc (.cells (#[] ++ news'.toArray ++ Builtin.zeroCells z.cells (grownCap w m 0 e - m)) e)).ownsRow 0 e size (.slice (some ⟨w.heap.size, 0, none⟩) m (grownCap w m 0 e)) m news' ∧
        w.grownBy (w.drew.alloc (.cells (#[] ++ news'.toArray ++ Builtin.zeroCells z.cells (grownCap w m 0 e - m)) e)) none := by
      intro news' hl
      refine ⟨⟨hl, .inr ⟨w.heap.size, _, _, rfl, Nat.zero_le _, heap_alloc_new w.drew _, hge, hcm, ?_, ?_⟩⟩, ⟨rfl, rfl, rfl, by simp, fun k hk _ => by show (w.heap.push _)[k]? = _; rw [Array.getElem?_push, if_neg (by omega)]⟩⟩
      · simp only [Array.size_append, List.size_toArray, size_zeroCells, hzs, hl, ← Nat.add_mul]
        simp
        rw [← Nat.add_mul]; congr 1; omega
      · simp only [Array.toList_append, List.append_assoc, List.nil_append]
        rw [← hl]
        exact List.take_left
    cases hsrc with
    | some hu hl h h1 =>
      rename_i e' a c
      have hfit := growslice_fits (need := m) (old := 0) (bytes := i.bytes) (by omega) (by rw [hby]; exact hbytes)
      have hr := run_append_grow (P := P) w t ty e i z ht hi hz ad 0 0 [] (by simp) (by simp) a m c news (by rw [hsize]; exact hl) h (by omega) (by omega) (by simpa using hfit)
      simp only [Nat.zero_add] at hr
      obtain ⟨f1, f2⟩ := fin news hl
      exact ⟨_, _, by rw [app_types ht hu]; exact hr, f2, .inr ⟨f1, rfl⟩⟩
    | none hu => exact absurd rfl hm
    | zeros hu h1 =>
      have hl : (Builtin.zeroCells z.cells m).toList.length = m * size := by rw [Array.length_toList, size_zeroCells, hzs]
      obtain ⟨f1, f2⟩ := fin _ hl
      refine ⟨_, _, ?_, f2, .inr ⟨f1, rfl⟩⟩
      have hw : IntKind.i64.wrap (m : Int) = m := by rw [IntKind.wrap_i64]; omega
      have hneg : ¬ ((m : Int) < 0) := by omega
      have hbig : ¬ (281474976710656 < (m : Int) * (bytes : Int)) := by rw [← Int.natCast_mul]; omega
      have h63' : ¬ (9223372036854775807 < (m : Int)) := by omega
      have hfit := growslice_fits (need := m) (old := 0) (bytes := bytes) (by omega) (by simpa using hbytes)
      have h48' : ¬ (281474976710656 < Builtin.nextslicecap m 0 * bytes) := by omega
      have hmz : ¬ (m * size = 0) := Nat.mul_ne_zero hm (by omega)
      have hf := run_firstCells_some (P := P) w.drew size 0 ad 0 0 [] (by simp) (by simp)
      simp [Builtin.append_, run_underlying ht, run_underlying hu, sizeOf, typeInfo, zeroValue, hi, hz, asInt, asIntOf, hw, hneg, hbig, hm, h63', h48', Question.forced, hf, newRow, grownCap, hmz, hsize, hby]
theorem appFin (hs : Sat w0 M J0 J ρ φ H w) {e : TypeId} {s N : Nat} {v' : Value} {w' : World} {all : List Value} {c1 : Cont} {free : Nat → Prop} (hfree : ∀ r, free r → (∀ i, ¬ φ i r) ∧ (∀ g, ¬ J g r) ∧ (M r ∨ w0.heap.size ≤ r))
    (hB : (N = 0 ∧ ∃ a, v' = .slice a 0 0) ∨ (w'.ownsRow 0 e s v' N all ∧ ∀ g, v'.ownBlock = some g → free g ∨ g = w.heap.size)) (hblk : ∀ r, r < w.heap.size → ¬ free r → w'.heap[r]? = w.heap[r]?) (es : w.heap.size ≤ w'.heap.size) (e1 : w'.os = w.os) (e2 : w'.tape = w.tape) (e3 : w'.output = w.output)
    (hall : ∀ (ρ' : Nat → Option Nat), Grow ρ ρ' J J w w' → Cells ρ' J w' c1 all) (hone : ∀ v ∈ all, v.oneCell' = true) (hal : all.length = N * s) (h0 : 0 < s) :
    ∃ cap φ' ρ', N ≤ cap ∧ Sat w0 M J0 J ρ' φ' (H ++ [.blk e c1 (cap * s)]) w' ∧ Grow ρ ρ' J J w w' ∧ Rep ρ' J w' (.s H.length 0 s N cap) v' := by
  have phantom : N = 0 → (∃ a, v' = .slice a 0 0) → ∃ cap φ' ρ', N ≤ cap ∧ Sat w0 M J0 J ρ' φ' (H ++ [.blk e c1 (cap * s)]) w' ∧ Grow ρ ρ' J J w w' ∧ Rep ρ' J w' (.s H.length 0 s N cap) v' := by
    rintro rfl ⟨a, rfl⟩
    have ha : all = [] := List.eq_nil_of_length_eq_zero (by simpa using hal)
    subst ha
    obtain ⟨hs', hg⟩ := hs.name2 (w' := w') (c := .blk e c1 0) (b := 0) (p := fun _ => False) hfree (fun _ h => absurd h id) (fun _ h => absurd h id) hblk es e1 e2 e3 (fun hg => .none (hall _ hg) (fun _ h => h))
    exact ⟨0, _, _, Nat.le_refl _, by rw [Nat.zero_mul]; exact hs', hg, .s (upd_same _ _ _) (fun h => absurd rfl h) (Nat.le_refl _) (Nat.zero_le _)⟩
  rcases hB with ⟨h1, h2⟩ | ⟨hB, hown⟩
  · exact phantom h1 h2
  · rcases hB.2 with ⟨g1, g2⟩ | ⟨g, cap, cur, g1, _, hg, hnc, hcm, hcs, htake⟩
    · exact phantom g2 ⟨_, g1⟩
    · subst g1
      have hcur : cur = (all ++ cur.toList.drop (N * s)).toArray := by
        apply Array.ext'
        simp only [List.toList_toArray]
        rw [← htake, List.take_append_drop]
      have hcl : (all ++ cur.toList.drop (N * s)).length = cap * s := by
        have := Nat.mul_le_mul_right s hnc
        have h9 : cur.toList.length = cap * s := by simpa using hcs
        rw [List.length_append, List.length_drop, hal, h9]; omega
      rw [hcur] at hg
      have hlt : g < w'.heap.size := (Array.getElem?_eq_some_iff.1 hg).1
      have ho := hown g rfl
      obtain ⟨hs', hgr⟩ := hs.name2 (w' := w') (c := .blk e c1 (cap * s)) (b := g) (p := fun r => r = g) hfree (fun r h => by subst h; rcases ho with h | h; · exact .inl h
                                                                                                                              · exact .inr (by omega)) (fun r h => by omega) hblk es e1 e2 e3
        (fun hgr => .blk (hall _ hgr) hg hcl hone (fun r => Iff.rfl))
      exact ⟨cap, _, _, hnc, hs', hgr, .s (upd_same _ _ _) (fun _ => by simp) hnc hcm⟩
theorem evAppTo_ok (hs : Sat w0 M J0 J ρ φ H w) {t u ty e : TypeId} {zc : Cont} {sz by_ : Nat} (htd : T.td t = some (.sl e)) (hz : Zero P e zc sz by_) {x : AV} {v y : Value} (hx : Rep ρ J w x v) {m : Nat} {d : Cont} {news : List Value}
    (hsrc0 : ∀ i z, P.info? e = some i → i.zero = some z → z.cells.size = sz → AppSrc P w sz z u y m news) (hd : Cells ρ J w d news) (hdl : news.length = m * sz) (hd1 : ∀ v ∈ news, v.oneCell' = true) {k : K} (h : evAppTo e sz by_ x m d H k) :
    Comes1 P w0 M J0 J ρ w (Builtin.append_ #[t, u] ty #[v, y]) k := by
  have ht : P.underlying t = some (.slice e) := T.hd t _ htd
  obtain ⟨i, z, h1, h2, h3, h4, h5, h6, h7⟩ := hz.out
  have hsrc := hsrc0 i z h1 h2 h7
  unfold evAppTo at h
  split at h
  · cases hx
    obtain ⟨⟨q1, q2, q3⟩, hk⟩ := h
    obtain ⟨v', w', e1, e2, e3, e4⟩ := run_app (w := w) (ty := ty) ht h1 h2 h3 h4 h7 q2 q3 (World.ownsRow_nil w 0 e sz) hsrc (by simpa using q1)
    simp only [Nat.zero_add, List.nil_append] at e2
    obtain ⟨cap, φ', ρ', hc, hs', hg, hr⟩ := appFin hs (free := fun _ => False) (c1 := d) (fun _ h => absurd h id) (.inr ⟨e2, fun g hg => by rcases e4 with e4 | e4 <;> rw [hg] at e4 <;> simp [Value.ownBlock] at e4; exact .inr e4⟩) (fun r hr _ => e3.block r hr (by simp [Value.ownBlock])) e3.size e3.os e3.tape e3.output (fun ρ' hg => hd.mono hg) hd1 hdl q2
    exact ⟨v', w', _, _, ρ', φ', J, e1, hk cap hc, hs', hg, hr⟩
  · rename_i i0 s n c
    split at h
    · rename_i e' c0 cp hi0
      rw [nth_eq] at hi0
      split at h
      · rename_i ψ c1 happ
        obtain ⟨⟨⟨rfl, rfl, q1, q2⟩, hψ, q3, q4, q5⟩, hk⟩ := h
        have hil := lt_of_get hi0
        have hs1 := hs.drop hil
        have hl1 : (H.set i0 .dead).length = H.length := List.length_set
        cases hx with
        | @s _ _ _ _ _ b a hb ha hn hm =>
        by_cases hc0 : c = 0
        · subst hc0
          have hn0 : n = 0 := by omega
          subst hn0
          have hcells : Cells ρ J w c0 [] := by
            rcases (hs.hold i0 _ hi0).inv with ⟨b', cs, gs, e1, hc, g1, g2, g3, g4⟩ | ⟨e0, hc, g4, _⟩
            · have := hc.len; rw [q1, Nat.zero_mul] at this
              rw [List.eq_nil_of_length_eq_zero this] at hc; exact hc
            · exact hc
          have hc1 : ∀ (ρ' : Nat → Option Nat) (w' : World), Grow ρ ρ' J J w w' → Cells ρ' J w' c1 news := fun ρ' w' hg => by simpa using (Cont.app_ok hcells hd happ hψ).mono hg
          rw [Nat.zero_add] at q3
          have done : ∀ v' w', (Builtin.append_ #[t, u] ty #[.slice a 0 0, y]).run P w = .ok v' w' → w.grownBy w' none → ((m = 0 ∧ ∃ a, v' = .slice a 0 0) ∨ (w'.ownsRow 0 e' s v' m news ∧ ∀ g, v'.ownBlock = some g → False ∨ g = w.heap.size)) → Comes1 P w0 M J0 J ρ w (Builtin.append_ #[t, u] ty #[.slice a 0 0, y]) k := by
            intro v' w' e1 e3 hB
            obtain ⟨cap, φ', ρ', hc, hs', hg, hr⟩ := appFin hs1 (free := fun _ => False) (c1 := c1) (fun _ h => absurd h id) hB (fun r hr _ => e3.block r hr (by simp)) e3.size e3.os e3.tape e3.output (fun ρ' hg => hc1 ρ' w' hg) hd1 hdl q4
            rw [hl1] at hr
            have hkk := hk cap (by omega)
            rw [Nat.zero_add] at hkk
            exact ⟨v', w', _, _, ρ', φ', J, e1, hkk, hs', hg, hr⟩
          cases a with
          | none =>
            obtain ⟨v', w', e1, e2, e3, e4⟩ := run_app (w := w) (ty := ty) ht h1 h2 h3 h4 h7 q4 q5 (World.ownsRow_nil w 0 e' s) hsrc (by simpa using q3)
            simp only [Nat.zero_add, List.nil_append] at e2
            exact done v' w' e1 (by simpa [Value.ownBlock] using e3) (.inr ⟨e2, fun g hg => by rcases e4 with e4 | e4 <;> rw [hg] at e4 <;> simp [Value.ownBlock] at e4; exact .inr e4⟩)
          | some ad =>
            obtain ⟨v', w', e1, e3, e4⟩ := run_app0 (w := w) (ty := ty) (ad := ad) ht h1 h2 h3 h4 h7 q4 q5 hsrc q3
            refine done v' w' e1 e3 ?_
            rcases e4 with ⟨e4, e5⟩ | ⟨e4, e5⟩
            · exact .inl ⟨e4, _, e5⟩
            · exact .inr ⟨e4, fun g hg => by rw [hg] at e5; simp at e5; exact .inr e5⟩
        · have hblk : ∃ cs gs, Cells ρ J w c0 cs ∧ (∀ v ∈ cs, v.oneCell' = true) ∧ cs.length = n * s ∧ w.heap[b]? = some (.cells (cs ++ gs).toArray e' (0, 0)) ∧ (cs ++ gs).length = c * s ∧ ∀ r, φ i0 r ↔ r = b := by
            rcases (hs.hold i0 _ hi0).inv with ⟨b', cs, gs, e1, hc, g1, g2, g3, g4⟩ | ⟨e0, hc, g4, _⟩
            · rw [hb] at e1; cases e1
              exact ⟨cs, gs, hc, g3, by rw [hc.len, q1], g1, by rw [g2, q2], g4⟩
            · rw [e0] at q2
              rcases Nat.mul_eq_zero.1 q2.symm with h | h
              · exact absurd h hc0
              · omega
          obtain ⟨cs, gs, hc, hone, hcl, g1, g2, g4⟩ := hblk
          have hae := ha hc0
          rw [Nat.zero_mul] at hae
          subst hae
          have hown : w.ownsRow 0 e' s (.slice (some ⟨b, 0, none⟩) n c) n cs := ⟨hcl, .inr ⟨b, c, _, rfl, Nat.zero_le _, g1, hn, hm, by simpa using g2, by
            simp only [List.toList_toArray]
            rw [← hcl]; exact List.take_left⟩⟩
          obtain ⟨v', w', e1, e2, e3, e4⟩ := run_app (w := w) (ty := ty) ht h1 h2 h3 h4 h7 q4 q5 hown hsrc q3
          have hbi : φ i0 b := (g4 b).2 rfl
          obtain ⟨cap, φ', ρ', hcc, hs', hg, hr⟩ := appFin hs1 (free := fun r => r = b) (c1 := c1) (fun r hr => by
              subst hr
              refine ⟨fun j hj => ?_, fun g hg => hs.jdis g i0 r hbi hg, hs.mod i0 r hbi⟩
              by_cases hji : j = i0
              · subst hji; rw [upd_same] at hj; exact hj
              · rw [upd_other _ _ _ hji] at hj; exact hs.disj j i0 r hji hj hbi)
            (.inr ⟨e2, fun g hg => by
              rcases e4 with e4 | e4 <;> rw [hg] at e4 <;> simp [Value.ownBlock] at e4
              · exact .inl e4
              · exact .inr e4⟩) (fun r hr hne => e3.block r hr (by simp [Value.ownBlock]; exact hne)) e3.size e3.os e3.tape e3.output (fun ρ' hg => (Cont.app_ok hc hd happ hψ).mono hg)
            (fun v hv => (List.mem_append.1 hv).elim (hone v) (hd1 v)) (by rw [List.length_append, hcl, hdl, Nat.add_mul]) q4
          rw [hl1] at hr
          exact ⟨v', w', _, _, ρ', φ', J, e1, hk cap hcc, hs', hg, hr⟩
      · exact absurd h id
    · exact absurd h id
  · exact absurd h id
theorem srcOf_ok (hs : Sat w0 M J0 J ρ φ H w) {sz m : Nat} {x : AV} {v : Value} {ψ : Prop} {d : Cont} (hx : Rep ρ J w x v) (h : srcOf sz x H = some (ψ, m, d)) (hψ : ψ) :
    ∃ a c news, v = .slice a m c ∧ Cells ρ J w d news ∧ news.length = m * sz ∧ (∀ u ∈ news, u.oneCell' = true) ∧ (a = none → m = 0 ∧ c = 0) ∧ (∀ ad, a = some ad → ∀ j u, news[j]? = some u → w.cell? (ad.add j) = some u) := by
  unfold srcOf at h
  split at h
  · rename_i i e s n c
    split at h
    · rename_i U c0 cp hi
      rw [nth_eq] at hi
      cases hb : Nat.beq s sz
      · rw [hb] at h; cases h
      · rw [hb] at h
        have := Nat.eq_of_beq_eq_true hb
        subst this
        simp only [cond_true] at h
        split at h
        · rename_i χ d' hext
          simp only [Option.some.injEq, Prod.mk.injEq] at h
          obtain ⟨rfl, rfl, rfl⟩ := h
          cases hx with
          | @s _ _ _ _ _ b a hb ha hn hm =>
            rcases (hs.hold i _ hi).inv with ⟨b', cs, gs, e1, hc, g1, g2, g3, g4⟩ | ⟨e0, hc, g4, _⟩
            · rw [hb] at e1; cases e1
              obtain ⟨hd, hle⟩ := Cont.ext_ok hc hext hψ
              rw [Nat.add_mul] at hle
              refine ⟨a, c, _, rfl, hd, by rw [List.length_take, List.length_drop]; omega, fun u hu => g3 u (List.mem_of_mem_drop (List.mem_of_mem_take hu)), fun hna => ?_, fun ad had j u hu => ?_⟩
              · by_cases hc0 : c = 0
                · omega
                · rw [ha hc0] at hna; cases hna
              · have hc0 : c ≠ 0 := by
                  intro hc0
                  have : n = 0 := by omega
                  subst this
                  simp at hu
                rw [ha hc0] at had
                cases had
                rw [Addr.add_mid]
                exact cell_block g1 (get_seg hu)
            · obtain ⟨hd, hle⟩ := Cont.ext_ok hc hext hψ
              rw [Nat.add_mul] at hle
              have hle' : n * s = 0 := by simp at hle; omega
              rw [hle'] at hd
              refine ⟨a, c, _, rfl, hd, by simp [hle'], by simp, fun hna => ?_, fun ad had j u hu => by simp at hu⟩
              by_cases hc0 : c = 0
              · omega
              · rw [ha hc0] at hna; cases hna
        · cases h
    · cases h
  · rename_i g s n c
    cases hb : Nat.beq s sz
    · rw [hb] at h; cases h
    · rw [hb] at h
      have := Nat.eq_of_beq_eq_true hb
      subst this
      simp only [cond_true, Option.some.injEq, Prod.mk.injEq] at h
      obtain ⟨rfl, rfl, rfl⟩ := h
      cases hx with
      | @im _ _ _ c' _ a cs h0 hh hc hl hone hn hn2 =>
        refine ⟨a, c', cs, rfl, hc, hl, hone, fun ha => ⟨hn ha, hn2 ha⟩, fun ad had j u hu => ?_⟩
        by_cases hn0 : n = 0
        · rw [hn0, Nat.zero_mul] at hl
          rw [List.eq_nil_of_length_eq_zero hl] at hu
          simp at hu
        · obtain ⟨b, o, e1, hj, hr⟩ := hh hn0
          rw [had] at e1; cases e1
          rw [Addr.add_mid]
          exact hr j u hu
  · cases h
theorem evAppend_ok (hs : Sat w0 M J0 J ρ φ H w) {ts : List TypeId} {xs : List AV} {us : List Value} (hx : Reps ρ J w xs us) {k : K} (h : evAppend T ts xs H k) (ty : TypeId) : Comes1 P w0 M J0 J ρ w (Builtin.append_ ts.toArray ty us.toArray) k := by
  unfold evAppend at h
  split at h
  · rename_i t u x y
    cases hx with
    | cons hx hn =>
    cases hn with
    | cons hy hn =>
    cases hn
    split at h
    · rename_i e htd
      split at h
      · rename_i z sz by_ hti
        have hz := T.hi e _ _ _ hti
        split at h
        · rename_i e' htu
          split at h
          · rename_i ψ m d hsrc
            obtain ⟨⟨hψ⟩, h⟩ := h
            obtain ⟨a, c, news, rfl, hd, hl, hone, hna, hsm⟩ := srcOf_ok hs hy hsrc hψ
            refine evAppTo_ok hs htd hz hx (fun i z _ _ _ => ?_) hd hl hone h
            cases a with
            | none =>
              obtain ⟨rfl, rfl⟩ := hna rfl
              rw [Nat.zero_mul] at hl
              rw [List.eq_nil_of_length_eq_zero hl]
              exact .none (T.hd u _ htu)
            | some ad => exact .some (T.hd u _ htu) hl (hsm ad rfl) hone
          · exact absurd h id
        · rename_i k0 htu
          split at h
          · rename_i k1 j
            split at h
            · rename_i d hzr
              obtain ⟨⟨h0⟩, h⟩ := h
              cases hy
              have hsz0 : 0 < sz := by
                unfold evAppTo at h
                split at h
                · exact h.1.out.2.1
                · split at h
                  · split at h
                    · exact h.1.out.2.2.2.1
                    · exact absurd h id
                  · exact absurd h id
                · exact absurd h id
              obtain ⟨i, zv, h1, h2, h3, h4, h5⟩ := zrep_ok (ρ := ρ) (J := J) (w := w) hz hzr hsz0
              obtain ⟨cs, gs, e1, e2, e3, e4, e5⟩ := h5 j.toNat (Nat.le_refl _)
              have hgs : gs = [] := List.eq_nil_of_length_eq_zero (by rw [List.length_append] at e4; omega)
              subst hgs
              rw [List.append_nil] at e1
              refine evAppTo_ok hs htd hz hx (fun i' z' hi' hz' hzs' => ?_) e2 e5 e3 h
              rw [h1] at hi'; cases hi'
              rw [h2] at hz'; cases hz'
              have e6 : (Builtin.zeroCells zv.cells j.toNat).toList = cs := by
                rw [← e1, show Builtin.zeroCells zv.cells j.toNat = madeCells zv.cells (j.toNat * sz) by unfold Builtin.zeroCells madeCells; rw [hzs']]
              have := AppSrc.zeros (P := P) (w := w) (size := sz) (z := zv) (kx := k1) (m := j.toNat) (T.hd u _ htu) (by rw [e6]; exact e3)
              rw [e6, Int.toNat_of_nonneg h0] at this
              exact this
            · exact absurd h id
          · exact absurd h id
        · exact absurd h id
      · exact absurd h id
    · exact absurd h id
  · exact absurd h id
end
end Go.Proofs.Ytcfmlnddmpiemaa.Sx


namespace Go.Proofs.Ytcfmlnddmpiemaa.Sx
open Go.RowKit
def evCopy {P : Program} (T : Tab P) (ts : List TypeId) (xs : List AV) (H : List Chunk) (k : K) : Prop :=
  match ts, xs with
  | [t, _], [x, y] => match T.td t with
    | some (.sl e) => match T.ti e with
      | some (_, 1, _) => match x with
        | .s i o 1 n _ => match nth H i with
          | some (.blk U (.ints j l) cap) => match srcOf 1 y H with
            | some (ψ, m, .ints j' l') => VC (ψ ∧ j = j' ∧ o + n ≤ l.length) ∧ k (.v (.int .i64 (min m n : Nat))) (H.set i (.blk U (.ints j (l.take o ++ l'.take (min m n) ++ l.drop (o + min m n))) cap))
            | _ => False
          | _ => False
        | _ => False
      | _ => False
    | _ => False
  | _, _ => False
section
variable {P : Program} {T : Tab P} {w0 : World} {M : Nat → Prop} {J0 : B0} {J : Bool → Nat → Prop} {ρ : Nat → Option Nat} {φ : Nat → Nat → Prop} {H : List Chunk} {w : World}
theorem set_self {α : Type} {l : List α} {i : Nat} {x : α} (h : l[i]? = some x) : l.set i x = l := by
  apply List.ext_getElem?
  intro k
  rw [List.getElem?_set]
  split
  · rename_i hk; subst hk; rw [h]; simp [lt_of_get h]
  · rfl
theorem evCopy_ok (hs : Sat w0 M J0 J ρ φ H w) {ts : List TypeId} {xs : List AV} {us : List Value} (hx : Reps ρ J w xs us) {k : K} (h : evCopy T ts xs H k) (ty : TypeId) : Comes1 P w0 M J0 J ρ w (Builtin.copy_ ts.toArray ty us.toArray) k := by
  unfold evCopy at h
  split at h
  · rename_i t u x y
    cases hx with
    | cons hx hn =>
    cases hn with
    | cons hy hn =>
    cases hn
    split at h
    · rename_i e htd
      split at h
      · rename_i z by_ hti
        have hz := T.hi e _ _ _ hti
        have hu : P.underlying t = some (.slice e) := T.hd t _ htd
        split at h
        · rename_i i o n c
          split at h
          · rename_i U j l cap hi
            rw [nth_eq] at hi
            split at h
            · rename_i ψ m j' l' hsrc
              obtain ⟨⟨hψ, rfl, hfit⟩, hk⟩ := h
              obtain ⟨a, cc, news, rfl, hd, hl, hone, hna, hsm⟩ := srcOf_ok hs hy hsrc hψ
              cases hd
              simp only [Nat.mul_one, List.length_map] at hl
              cases hx with
              | @s _ _ _ _ _ b a' hb ha hnc hm =>
              have hcells : (Builtin.firstCells 1 (min m n) (.slice a m cc)).run P w = .ok ((l'.take (min m n)).map (Value.int j)).toArray w := by
                cases a with
                | none =>
                  obtain ⟨rfl, rfl⟩ := hna rfl
                  simp [Builtin.firstCells]
                | some ad =>
                  refine run_firstCells_some (P := P) w 1 (min m n) ad m cc _ (by rw [List.length_map, List.length_take]; omega) (fun q v hv => hsm ad rfl q v ?_)
                  rw [List.map_take, List.getElem?_take] at hv
                  split at hv
                  · exact hv
                  · cases hv
              have hlen : ((l'.take (min m n)).map (Value.int j)).length = min m n := by rw [List.length_map, List.length_take]; omega
              have hrun : ∀ w', (match a' with | some a => storeCells a ((l'.take (min m n)).map (Value.int j)).toArray.toList | none => pure ()).run P w = .ok () w' → (Builtin.copy_ #[t, u] ty #[.slice a' n c, .slice a m cc]).run P w = .ok (.int .i64 (min m n : Nat)) w' := by
                intro w' hw
                have hmin : Nat.min m n = min m n := rfl
                cases a' with
                | none =>
                  simp only [Builtin.copy_, List.getElem?_toArray, List.getElem?_cons_zero, List.getElem?_cons_succ, Sem.run_bind, run_underlying hu, Result.andThen_ok, Builtin.lenOf, Sem.run_pure, run_sizeOf hz, hmin, hcells, goInt]
                  cases hw; rfl
                | some ad' =>
                  simp only [Builtin.copy_, List.getElem?_toArray, List.getElem?_cons_zero, List.getElem?_cons_succ, Sem.run_bind, run_underlying hu, Result.andThen_ok, Builtin.lenOf, Sem.run_pure, run_sizeOf hz, hmin, hcells, goInt]
                  simp only at hw
                  rw [hw]; rfl
              by_cases hc0 : c = 0
              · have hn0 : n = 0 := by omega
                subst hn0
                have e0 : (H.set i (.blk U (.ints j (l.take o ++ l'.take (min m 0) ++ l.drop (o + min m 0))) cap)) = H := by
                  rw [Nat.min_zero, List.take_zero, List.append_nil, Nat.add_zero, List.take_append_drop, set_self hi]
                rw [e0] at hk
                refine .same hs (hrun w ?_) hk (.v _)
                cases a' <;> simp [storeCells]
              · have hae := ha hc0
                subst hae
                rcases (hs.hold i _ hi).inv with ⟨b', cs, gs, e1, hc, h2, h3, h4, h5⟩ | ⟨e0, hc, h5, _⟩
                · rw [hb] at e1; cases e1
                  cases hc
                  have hone' : ∀ v ∈ (l'.take (min m n)).map (Value.int j), v.oneCell' = true := fun v hv => by
                    obtain ⟨q, _, rfl⟩ := List.mem_map.1 hv; rfl
                  have hst := run_storeCells_at (P := P) b (o * 1) U ((l'.take (min m n)).map (Value.int j)) 0 (l.map (Value.int j) ++ gs).toArray w h2 (by simp only [List.size_toArray, List.length_append, List.length_map, hlen]; rw [List.length_map] at hlen; omega) hone'
                  have e2 : ((l.map (Value.int j) ++ gs).toArray.toList.take (o * 1 + 0) ++ (l'.take (min m n)).map (Value.int j) ++ (l.map (Value.int j) ++ gs).toArray.toList.drop (o * 1 + 0 + ((l'.take (min m n)).map (Value.int j)).length)) = (l.take o ++ l'.take (min m n) ++ l.drop (o + min m n)).map (Value.int j) ++ gs := by
                    simp only [Nat.mul_one, Nat.add_zero, hlen, List.toList_toArray]
                    rw [List.take_append_of_le_length (by simp; omega), List.drop_append_of_le_length (by simp; omega)]
                    simp [List.map_take, List.map_drop]
                  rw [e2] at hst
                  have hheap := setRow_heap w b (l.map (Value.int j) ++ gs).toArray ((l.take o ++ l'.take (min m n) ++ l.drop (o + min m n)).map (Value.int j) ++ gs).toArray U (0, 0) h2
                  have hoth : ∀ r, ¬ φ i r → (w.setRow b ((l.take o ++ l'.take (min m n) ++ l.drop (o + min m n)).map (Value.int j) ++ gs).toArray).heap[r]? = w.heap[r]? := fun r hr => setRow_other w b r _ (fun e => hr ((h5 r).2 e))
                  have hll : (l.take o ++ l'.take (min m n) ++ l.drop (o + min m n)).length = l.length := by
                    simp only [List.length_append, List.length_take, List.length_drop]; omega
                  obtain ⟨hs', hg⟩ := hs.put (w' := w.setRow b ((l.take o ++ l'.take (min m n) ++ l.drop (o + min m n)).map (Value.int j) ++ gs).toArray) (i := i) (c := .blk U (.ints j (l.take o ++ l'.take (min m n) ++ l.drop (o + min m n))) cap) (p' := φ i) (fun r h => .inl h) (fun r h => by simpa using hs.lt i r h) (fun r _ h => hoth r h) (by simp) rfl rfl rfl (lt_of_get hi)
                    (by rw [hb]; exact .blk .ints hheap (by rw [List.length_append, List.length_map, hll]; simpa using h3) (fun v hv => by obtain ⟨q, _, rfl⟩ := List.mem_map.1 hv; rfl) h5)
                  exact ⟨_, _, _, _, _, _, J, hrun _ hst, hk, hs', hg, .v _⟩
                · have := hc.len
                  simp [Cont.cells] at this
                  have hl0 : l = [] := List.eq_nil_of_length_eq_zero this.symm
                  subst hl0
                  have hn0 : n = 0 := by simp at hfit; omega
                  subst hn0
                  have e0' : (H.set i (.blk U (.ints j (([] : List Int).take o ++ l'.take (min m 0) ++ ([] : List Int).drop (o + min m 0))) cap)) = H := by
                    rw [Nat.min_zero, List.take_zero, List.append_nil, Nat.add_zero, List.take_append_drop, set_self hi]
                  rw [e0'] at hk
                  exact .same hs (hrun w (by simp [storeCells])) hk (.v _)
            · exact absurd h id
          · exact absurd h id
        · exact absurd h id
      · exact absurd h id
    · exact absurd h id
  · exact absurd h id
end
end Go.Proofs.Ytcfmlnddmpiemaa.Sx


namespace Go.Proofs.Ytcfmlnddmpiemaa.Sx
open Go.RowKit
/-- Bytes as a string, and back. -/
def strOf (l : List Int) : ByteArray := l.foldl (fun r n => r.push (UInt8.ofNat n.toNat)) ByteArray.empty
def bytesOf (s : ByteArray) : List Int := s.data.toList.map (fun b => (b.toNat : Int))
section
variable {P : Program} (T : Tab P)
def evStr (s : TypeId) (x : AV) (H : List Chunk) (k : K) : Prop :=
  match T.td s with
  | some (.sl e) => match T.td e with
    | some (.int .u8) => match x with
      | .v (.slice none _ _) => k (.v (.string ByteArray.empty)) H
      | x => match srcOf 1 x H with
        | some (ψ, _, .ints .u8 l) => VC ψ ∧ k (.v (.string (strOf l))) H
        | _ => False
    | _ => False
  | _ => False
def evBytes (s e : TypeId) (x : AV) (H : List Chunk) (k : K) : Prop :=
  match T.td s with
  | some .str => match T.td e with
    | some (.int .u8) => match x with
      | .v (.string t) => VC (t.size ≤ 1099511627776) ∧ k (.im true 1 t.size (.ints .u8 (bytesOf t))) H
      | _ => False
    | _ => False
  | _ => False
def evConvX (g : Bool) (s d : TypeId) (x : AV) (H : List Chunk) (k : K) : Prop :=
  match T.td d with
  | some .str => evStr T s x H k
  | some (.sl e) => evBytes T s e x H k
  | _ => evConv T g s d x H k
/-- A row of bytes that is turned into its own type: its block is marked, and changes no more. -/
def evMark (e : TypeId) (x : AV) (H : List Chunk) (k : K) : Prop :=
  match T.td e with
  | some (.int .u8) => match x with
    | .s i 0 1 n c => match nth H i with
      | some (.blk _ (.ints kd l) cap) => VC (0 < c ∧ 0 < cap ∧ n ≤ l.length) ∧ k (.im true 1 n (.ints kd (l.take n))) (H.set i .dead)
      | _ => False
    | _ => False
  | _ => False
def evConvY (g : Bool) (s d : TypeId) (x : AV) (H : List Chunk) (k : K) : Prop :=
  cond (Nat.beq s d) (match T.td d with
    | some (.sl e) => evMark T e x H k
    | _ => evConvX T g s d x H k) (evConvX T g s d x H k)
end
section
variable {P : Program} {T : Tab P} {w0 : World} {M : Nat → Prop} {J0 : B0} {J : Bool → Nat → Prop} {ρ : Nat → Option Nat} {φ : Nat → Nat → Prop} {H : List Chunk} {w : World}
/-- More blocks that don't change. -/
theorem Sat.jplus (h : Sat w0 M J0 J ρ φ H w) {p : Nat → Prop} (hl : ∀ r, p r → r < w.heap.size) (hd : ∀ i r, φ i r → ¬ p r) (hm : ∀ r, p r → M r ∨ w0.heap.size ≤ r) : Sat w0 M J0 (fun g r => J g r ∨ p r) ρ φ H w := by
  have hg : Grow ρ ρ J (fun g r => J g r ∨ p r) w w := ⟨fun _ _ h => h, fun _ _ h => .inl h, fun _ _ _ => rfl⟩
  refine ⟨fun i c hi => (h.hold i c hi).mono hg (fun _ _ => rfl), h.out, h.disj, h.lt, fun g r hr => ?_, fun g i r h1 h2 => ?_, fun r hr => ?_, fun g r hr => .inl (h.j0 g r hr), fun g r hr => ?_, fun r hr => ?_, h.rg, h.fr, h.mod⟩
  · rcases hr with hr | hr
    · exact h.jlt g r hr
    · exact hl r hr
  · rcases h2 with h2 | h2
    · exact h.jdis g i r h1 h2
    · exact hd i r h1 h2
  · rcases hr with hr | hr
    · exact .inl (h.jtf r hr)
    · exact .inr hr
  · rcases hr with hr | hr
    · exact h.jnew g r hr
    · exact .inr (hm r hr)
  · rcases hr with hr | hr
    · rcases h.jtrue r hr with hr | hr
      · exact .inl (.inl hr)
      · exact .inr hr
    · exact .inl (.inr hr)
theorem evStr_ok (hs : Sat w0 M J0 J ρ φ H w) {s d : TypeId} (hd : T.td d = some .str) {x : AV} {u : Value} (hx : Rep ρ J w x u) {k : K} (h : evStr T s x H k) : Comes1 P w0 M J0 J ρ w (convert s d u) k := by
  unfold evStr at h
  split at h
  · rename_i e hse
    have hsu := T.hd s _ hse
    have hdu := T.hd d _ hd
    split at h
    · rename_i he
      have heu := T.hd e _ he
      split at h
      · rename_i a b
        cases hx
        refine Comes1.same hs (u := .string ByteArray.empty) ?_ h (.v _)
        rw [run_convert_bytes_string w s d e _ _ _ hsu heu hdu]
        rfl
      · rename_i x' hne
        split at h
        · rename_i ψ n l hsrc
          obtain ⟨⟨hψ⟩, h⟩ := h
          obtain ⟨a, c, news, rfl, hc, hl, _, hnil, hcell⟩ := srcOf_ok hs hx hsrc hψ
          have hnews : news = l.map (Value.int .u8) := by
            cases hc; rfl
          refine Comes1.same hs (u := .string (strOf l)) ?_ h (.v _)
          rw [run_convert_bytes_string w s d e _ _ _ hsu heu hdu]
          cases a with
          | none =>
            obtain ⟨rfl, rfl⟩ := hnil rfl
            have : l = [] := by
              rw [hnews] at hl; simp at hl; exact hl
            subst this; rfl
          | some ad =>
            refine run_bytesToString w ad n c l ?_
            have := run_loadCells_list (P := P) w ad news (fun j v hv => hcell ad rfl j v hv)
            rw [hl, Nat.mul_one, hnews] at this
            exact this
        · exact absurd h id
    · exact absurd h id
  · exact absurd h id
theorem evBytes_ok (hs : Sat w0 M J0 J ρ φ H w) {s d e : TypeId} (hd : T.td d = some (.sl e)) {x : AV} {u : Value} (hx : Rep ρ J w x u) {k : K} (h : evBytes T s e x H k) : Comes1 P w0 M J0 J ρ w (convert s d u) k := by
  unfold evBytes at h
  split at h
  · rename_i hss
    split at h
    · rename_i he
      split at h
      · rename_i t
        obtain ⟨⟨ht⟩, h⟩ := h
        cases hx
        have hr := Lib.run_convert_string_bytes (P := P) w s d e t (T.hd s _ hss) (T.hd d _ hd) (T.hd e _ he)
        have hb := Lib.bytesWorld_at_old w e t
        have hsz := Lib.bytesWorld_size w e t
        have hbel : Below w.heap.size w (Lib.bytesWorld w e t) := ⟨rfl, rfl, rfl, by rw [hsz]; omega, fun r hr => hb r hr⟩
        obtain ⟨h1, h2⟩ := hs.below hbel
        have h3 := h1.jplus (p := fun r => r = w.heap.size) (fun r hr => by rw [hr, hsz]; omega) (fun i r hi hr => by have := hs.lt i r hi; omega) (fun r hr => .inr (by rw [hr]; exact hs.fr.size))
        have hg : Grow ρ ρ J (fun g r => J g r ∨ r = w.heap.size) w (Lib.bytesWorld w e t) := ⟨fun _ _ h => h, fun _ _ h => .inl h, h2.k⟩
        have hcap : t.size ≤ grownCap w t.size 0 e := grownCap_ge w t.size 0 e
        refine ⟨_, _, _, H, ρ, φ, _, hr, h, h3, hg, ?_⟩
        refine .im (cs := (bytesOf t).map (Value.int .u8)) hcap (fun _ => ⟨w.heap.size, 0, rfl, .inr rfl, fun j v hv => ?_⟩) .ints (by simp [bytesOf]) (by intro u hu; simp at hu; obtain ⟨z, _, rfl⟩ := hu; rfl) (fun h => by cases h) (fun h => by cases h)
        have hj : j < t.size := by have := lt_of_get hv; simpa [bytesOf] using this
        have hc := Lib.bytesWorld_cell w e t j hj
        rw [Nat.zero_add, hc]
        have hj2 : j < t.data.toList.length := by simpa using hj
        have this : v = .int .u8 ((t.data.toList[j]).toNat : Int) := by
          have h5 : ((bytesOf t).map (Value.int .u8))[j]? = some (.int .u8 ((t.data.toList[j]).toNat : Int)) := by
            unfold bytesOf
            rw [List.getElem?_map, List.getElem?_map, List.getElem?_eq_getElem hj2]; rfl
          rw [h5] at hv
          exact (Option.some.inj hv).symm
        rw [this, List.getD_eq_getElem?_getD, List.getElem?_eq_getElem hj2]; rfl
      · exact absurd h id
    · exact absurd h id
  · exact absurd h id
theorem evConvX_ok (hs : Sat w0 M J0 J ρ φ H w) {g : Bool} {s d : TypeId} {x : AV} {u : Value} (hx : Rep ρ J w x u) {k : K} (h : evConvX T g s d x H k) : Comes1 P w0 M J0 J ρ w (convert s d u) k := by
  unfold evConvX at h
  split at h
  · rename_i hd; exact evStr_ok hs hd hx h
  · rename_i hd; exact evBytes_ok hs hd hx h
  · exact (evConv_ok hs hx h).comes hs
theorem run_mark {d e : TypeId} {b n c : Nat} {cs : Array Value} {T' : TypeId} (hd : P.underlying d = some (.slice e)) (he : P.underlying e = some (.int .u8)) (hb : w.heap[b]? = some (.cells cs T' (0, 0))) :
    (convert d d (.slice (some ⟨b, 0, none⟩) n c)).run P w = .ok (.slice (some ⟨b, 0, none⟩) n c) (w.freeze ⟨b, cs.size, none⟩ 1) := by
  have hs : w.shape? b = some (T', cs.size) := by unfold World.shape?; rw [hb]
  simp [convert, run_underlying hd, run_underlying he, markStringish, hs]
theorem evMark_ok (hs : Sat w0 M J0 J ρ φ H w) {d e : TypeId} (hd : T.td d = some (.sl e)) {x : AV} {u : Value} (hx : Rep ρ J w x u) {k : K} (h : evMark T e x H k) : Comes1 P w0 M J0 J ρ w (convert d d u) k := by
  unfold evMark at h
  split at h
  · rename_i he
    split at h
    · rename_i i n c
      split at h
      · rename_i T' kd l cap hi
        obtain ⟨⟨hc0, hcap, hn⟩, h⟩ := h
        cases hx with
        | @s _ _ _ _ _ b a hρ ha hnc hmax =>
          have ha := ha (by omega)
          rw [Nat.zero_mul] at ha
          subst ha
          rw [nth_eq] at hi
          have hlen : i < H.length := lt_of_get hi
          have hh := hs.hold i _ hi
          rw [hρ] at hh
          cases hh with
          | none hc hp => omega
          | @blk _ _ _ _ _ _ cs gs hc hb hz h1 hp =>
            cases hc
            have hrun := run_mark (P := P) (n := n) (c := c) (T.hd d _ hd) (T.hd e _ he) hb
            generalize hsz : (l.map (Value.int kd) ++ gs).toArray.size = sz at hrun
            have hbl : b < w.heap.size := by
              rcases Nat.lt_or_ge b w.heap.size with h5 | h5
              · exact h5
              · rw [Array.getElem?_eq_none h5] at hb; cases hb
            have hw' : ∀ r, r ≠ b → (w.freeze ⟨b, sz, none⟩ 1).heap[r]? = w.heap[r]? := fun r hr => by
              unfold World.freeze
              rw [if_neg (by decide)]
              simp only
              rw [Array.getElem?_modify]
              rw [if_neg (fun h => hr h.symm)]
            have hwb : (w.freeze ⟨b, sz, none⟩ 1).heap[b]? = some (.cells (l.map (Value.int kd) ++ gs).toArray T' (sz, sz + 1)) := by
              unfold World.freeze
              rw [if_neg (by decide)]
              simp only
              rw [Array.getElem?_modify, if_pos rfl, hb]
              rfl
            have hws : (w.freeze ⟨b, sz, none⟩ 1).heap.size = w.heap.size := by
              unfold World.freeze
              rw [if_neg (by decide)]
              simp
            have hwo : (w.freeze ⟨b, sz, none⟩ 1).os = w.os ∧ (w.freeze ⟨b, sz, none⟩ 1).tape = w.tape ∧ (w.freeze ⟨b, sz, none⟩ 1).output = w.output := by
              unfold World.freeze
              rw [if_neg (by decide)]
              exact ⟨rfl, rfl, rfl⟩
            obtain ⟨p1, p2⟩ := hs.put (w' := w.freeze ⟨b, sz, none⟩ 1) (i := i) (c := .dead) (p' := fun _ => False) (fun r h => absurd h id) (fun r h => absurd h id) (fun r _ hr => hw' r (fun e => hr ((hp r).2 e))) (by omega) hwo.1 hwo.2.1 hwo.2.2 hlen (.dead (fun r h => h))
            have p3 := p1.jplus (p := fun r => r = b) (fun r hr => by rw [hr]; omega) (fun j r hj hr => by
              by_cases hji : j = i
              · subst hji; rw [upd_same] at hj; exact hj
              · rw [upd_other _ _ _ hji] at hj; exact hs.disj j i r hji hj ((hp r).2 hr)) (fun r hr => hs.mod i r ((hp r).2 hr))
            refine ⟨_, _, _, _, ρ, _, _, hrun, h, p3, ⟨fun _ _ h => h, fun _ _ h => .inl h, p2.k⟩, ?_⟩
            refine .im (cs := (l.take n).map (Value.int kd)) hnc (fun _ => ⟨b, 0, rfl, .inr rfl, fun j v hv => ?_⟩) .ints (by simp; omega) (by intro u hu; rcases List.mem_map.1 hu with ⟨z, _, rfl⟩; rfl) (fun h => by cases h) (fun h => by cases h)
            have hj : j < n ∧ l[j]? = l[j]? := by
              have := lt_of_get hv
              simp at this
              exact ⟨by omega, rfl⟩
            rw [List.getElem?_map, List.getElem?_take, if_pos hj.1] at hv
            unfold World.cell?
            rw [Nat.zero_add]
            simp only [hwb]
            have : (l.map (Value.int kd) ++ gs)[j]? = some v := by
              rw [List.getElem?_append_left (by simp; omega), List.getElem?_map]; exact hv
            simpa using this
      · exact absurd h id
    · exact absurd h id
  · exact absurd h id
theorem evConvY_ok (hs : Sat w0 M J0 J ρ φ H w) {g : Bool} {s d : TypeId} {x : AV} {u : Value} (hx : Rep ρ J w x u) {k : K} (h : evConvY T g s d x H k) : Comes1 P w0 M J0 J ρ w (convert s d u) k := by
  unfold evConvY at h
  cases hb : Nat.beq s d with
  | false => rw [hb] at h; exact evConvX_ok hs hx h
  | true =>
    have := Nat.eq_of_beq_eq_true hb
    subst this
    rw [hb] at h
    simp only [cond_true] at h
    split at h
    · rename_i hd; exact evMark_ok hs hd hx h
    · exact evConvX_ok hs hx h
end
end Go.Proofs.Ytcfmlnddmpiemaa.Sx


namespace Go.Proofs.Ytcfmlnddmpiemaa.Sx
open Go.RowKit
/-- A small number, computed. -/
def numK (n : Nat) (k : Nat → Prop) : Prop :=
  match n with
  | 0 => k 0
  | 1 => k 1
  | 2 => k 2
  | 3 => k 3
  | 4 => k 4
  | 5 => k 5
  | 6 => k 6
  | 7 => k 7
  | 8 => k 8
  | 9 => k 9
  | 10 => k 10
  | 11 => k 11
  | 12 => k 12
  | 13 => k 13
  | 14 => k 14
  | 15 => k 15
  | 16 => k 16
  | 17 => k 17
  | 18 => k 18
  | 19 => k 19
  | 20 => k 20
  | 21 => k 21
  | 22 => k 22
  | 23 => k 23
  | 24 => k 24
  | 25 => k 25
  | 26 => k 26
  | 27 => k 27
  | 28 => k 28
  | 29 => k 29
  | 30 => k 30
  | 31 => k 31
  | 32 => k 32
  | 33 => k 33
  | 34 => k 34
  | 35 => k 35
  | 36 => k 36
  | 37 => k 37
  | 38 => k 38
  | 39 => k 39
  | 40 => k 40
  | 41 => k 41
  | 42 => k 42
  | 43 => k 43
  | 44 => k 44
  | 45 => k 45
  | 46 => k 46
  | 47 => k 47
  | 48 => k 48
  | 49 => k 49
  | 50 => k 50
  | 51 => k 51
  | 52 => k 52
  | 53 => k 53
  | 54 => k 54
  | 55 => k 55
  | 56 => k 56
  | 57 => k 57
  | 58 => k 58
  | 59 => k 59
  | 60 => k 60
  | 61 => k 61
  | 62 => k 62
  | 63 => k 63
  | n => k n
theorem numK_eq (n : Nat) (k : Nat → Prop) : numK n k = k n := by
  unfold numK
  split <;> rfl
/-- A value, computed. -/
def forceV (v : AV) (k : AV → Prop) : Prop :=
  match v with
  | .p i e sz o => numK i (fun i => k (.p i e sz o))
  | .m i => numK i (fun i => k (.m i))
  | .s i e sz n c => numK i (fun i => k (.s i e sz n c))
  | .any => k .any
  | .v x => k (.v x)
  | .im g sz n c => k (.im g sz n c)
  | .q g c e sz o => k (.q g c e sz o)
  | .agg l => k (.agg l)
  | .arr k' l => k (.arr k' l)
  | .tup l => k (.tup l)
  | .ifc t x => k (.ifc t x)
theorem forceV_eq (v : AV) (k : AV → Prop) : forceV v k = k v := by
  cases v <;> simp only [forceV, numK_eq]
def forceL : List AV → (List AV → Prop) → Prop
  | [], k => k []
  | v :: r, k => forceV v (fun v => forceL r (fun r => k (v :: r)))
theorem forceL_eq : ∀ (l : List AV) (k : List AV → Prop), forceL l k = k l
  | [], k => rfl
  | v :: r, k => by unfold forceL; rw [forceV_eq, forceL_eq r]
def forceN : List Nat → (List Nat → Prop) → Prop
  | [], k => k []
  | i :: r, k => numK i (fun i => forceN r (fun r => k (i :: r)))
theorem forceN_eq : ∀ (l : List Nat) (k : List Nat → Prop), forceN l k = k l
  | [], k => rfl
  | i :: r, k => by unfold forceN; rw [numK_eq, forceN_eq r]
def forceC (c : Chunk) (k : Chunk → Prop) : Prop :=
  match c with
  | .dead => k .dead
  | .blk T d cap => match d with
    | .lst l => forceL l (fun l => k (.blk T (.lst l) cap))
    | .ints k' l => k (.blk T (.ints k' l) cap)
    | .recs sz n f => k (.blk T (.recs sz n f) cap)
  | .pack ext n κ cs => forceN ext (fun ext => k (.pack ext n κ cs))
  | .mp l st => k (.mp l st)
  | .it m s t l => numK m (fun m => k (.it m s t l))
theorem forceC_eq (c : Chunk) (k : Chunk → Prop) : forceC c k = k c := by
  cases c with
  | blk T d cap => cases d <;> simp only [forceC, forceL_eq]
  | pack ext n κ cs => simp only [forceC, forceN_eq]
  | it m s t l => simp only [forceC, numK_eq]
  | _ => rfl
def forceH : List Chunk → (List Chunk → Prop) → Prop
  | [], k => k []
  | c :: r, k => forceC c (fun c => forceH r (fun r => k (c :: r)))
theorem forceH_eq : ∀ (l : List Chunk) (k : List Chunk → Prop), forceH l k = k l
  | [], k => rfl
  | c :: r, k => by unfold forceH; rw [forceC_eq, forceH_eq r]
/-- What comes of an operation, computed. -/
def comp (k : AV → List Chunk → Prop) (v : AV) (H : List Chunk) : Prop := forceV v (fun v => forceH H (fun H => k v H))
theorem comp_eq (k : AV → List Chunk → Prop) : comp k = k := by
  funext v H
  unfold comp
  rw [forceV_eq, forceH_eq]
end Go.Proofs.Ytcfmlnddmpiemaa.Sx


namespace Go.Proofs.Ytcfmlnddmpiemaa.Sx
open Go.RowKit
/-! ### Go's maps by numbers -/
def lkm (n : Int) : List (Int × AV) → Option AV
  | [] => none
  | (a, v) :: r => if a = n then some v else lkm n r
def upm (n : Int) (v : AV) : List (Int × AV) → List (Int × AV)
  | [] => [(n, v)]
  | (a, u) :: r => if a = n then (a, v) :: r else (a, u) :: upm n v r
/-- What is looked up is there, or it isn't. -/
structure LookP (l : List (Int × AV)) (n : Int) (k1 : AV → Prop) (k0 : Prop) : Prop where
  hit : ∀ v, lkm n l = some v → k1 v
  miss : lkm n l = none → k0
section
variable {P : Program} (T : Tab P)
def evMakeMap (t : TypeId) (H : List Chunk) (k : K) : Prop := k (.m H.length) (H ++ [.mp [] none])
def evLook (t : TypeId) (x y : AV) (ok : Bool) (H : List Chunk) (k : K) : Prop :=
  match T.td t with
  | some (.mp kt vt) => match T.td kt, T.td vt, T.ti vt with
    | some (.int .i64), some (.ar _ _), some (.ints zk zl, s, _) => match x, y with
      | .m i, .v (.int .i64 n) => match nth H i with
        | some (.mp l _) => cond (Nat.beq s 1) False (LookP l n (fun v => k (cond ok (.tup [v, .v (.bool true)]) v) H) (k (cond ok (.tup [.arr zk zl, .v (.bool false)]) (.arr zk zl)) H))
        | _ => False
      | _, _ => False
    | _, _, _ => False
  | _ => False
def evUpd (t : TypeId) (x y z : AV) (H : List Chunk) (k : K) : Prop :=
  match T.td t with
  | some (.mp kt vt) => match T.td kt with
    | some (.int .i64) => match x, y with
      | .m i, .v (.int .i64 n) => match nth H i with
        | some (.mp l _) => k (.v undef) (H.set i (.mp (upm n z l) none))
        | _ => False
      | _, _ => False
    | _ => False
  | _ => False
end
section
variable {P : Program} {T : Tab P} {w0 : World} {M : Nat → Prop} {J0 : B0} {J : Bool → Nat → Prop} {ρ : Nat → Option Nat} {φ : Nat → Nat → Prop} {H : List Chunk} {w : World}
theorem Holds.invM {l : List (Int × AV)} {st : Option (List Nat × Nat)} {b : Option Nat} {p : Nat → Prop} (h : Holds J w ρ (.mp l st) b p) :
    ∃ b' es clock, b = some b' ∧ w.heap[b']? = some (.map es clock) ∧ es.toList.map (fun e => e.key) = l.map (fun x => Value.int .i64 x.1) ∧ Reps ρ J w (l.map (fun x => x.2)) (es.toList.map (fun e => e.val)) ∧
      (l.map (fun x => x.1)).Nodup ∧ (es.toList.map (fun e => e.born)).Nodup ∧ (∀ e ∈ es.toList, e.born < clock) ∧ (∀ s c, st = some (s, c) → es.toList.map (fun e => e.born) = s ∧ clock = c) ∧ ∀ r, p r ↔ r = b' := by
  cases h with
  | mp hb hk hv hn hs hc hst hp => exact ⟨_, _, _, rfl, hb, hk, hv, hn, hs, hc, hst, hp⟩
theorem find_ok (n : Int) : ∀ (es : List MapEntry) (l : List (Int × AV)) (i : Nat), es.map (fun e => e.key) = l.map (fun x => Value.int .i64 x.1) → Reps ρ J w (l.map (fun x => x.2)) (es.map (fun e => e.val)) →
    (lkm n l = none ∧ (∀ z, upm n z l = l ++ [(n, z)]) ∧ n ∉ l.map (fun x => x.1) ∧ Instr.findNow (.int .i64) (.int .i64 n) es i = some none) ∨ ∃ v e j, lkm n l = some v ∧ Instr.findNow (.int .i64) (.int .i64 n) es i = some (some (i + j, e.val)) ∧ Rep ρ J w v e.val ∧ es[j]? = some e ∧ e.key = .int .i64 n ∧
      (∀ z, upm n z l = l.set j (n, z)) ∧ (l[j]?).map (fun x => x.1) = some n
  | [], [], i, _, _ => .inl ⟨rfl, fun _ => rfl, by simp, rfl⟩
  | e :: es, (a, v) :: l, i, hk, hr => by
    simp only [List.map_cons, List.cons.injEq] at hk
    cases hr with
    | cons h hs =>
      by_cases ha : a = n
      · subst ha
        right
        refine ⟨v, e, 0, by simp [lkm], ?_, h, rfl, hk.1, fun z => by simp [upm], rfl⟩
        simp [Instr.findNow, hk.1, Instr.sameNow]
      · have hs' : Instr.findNow (.int .i64) (.int .i64 n) (e :: es) i = Instr.findNow (.int .i64) (.int .i64 n) es (i + 1) := by
          have hb : (n == a) = false := by simpa using (show ¬ n = a from fun h => ha h.symm)
          simp [Instr.findNow, hk.1, Instr.sameNow, hb]
        rcases find_ok n es l (i + 1) hk.2 hs with ⟨h1, h0, h3, h2⟩ | ⟨v', u, j, h1, h2, h3, h4, h5, h6, h7⟩
        · exact .inl ⟨by simp [lkm, ha, h1], fun z => by simp [upm, ha, h0], by simp [h3, show ¬ n = a from fun h => ha h.symm], by rw [hs', h2]⟩
        · right
          refine ⟨v', u, j + 1, by simp [lkm, ha, h1], by rw [hs', h2, show i + 1 + j = i + (j + 1) by omega], h3, by simpa using h4, h5, fun z => by simp [upm, ha, h6], by simpa using h7⟩
  | [], _ :: _, _, hk, _ => by simp at hk
  | _ :: _, [], _, hk, _ => by simp at hk
theorem zero_ar {t : TypeId} {k : IntKind} {l : List Int} {s b : Nat} (h : Zero P t (.ints k l) s b) (hs : s ≠ 1) : (zeroValue t).run P w = .ok (.agg (l.map (Value.int k)).toArray) w := by
  obtain ⟨i, z, h1, h2, h3, h4, h5, h6, h7⟩ := h.out
  have hc := h5 (fun _ => none) (fun _ _ => False) w
  have e : z.cells.toList = l.map (Value.int k) := by
    generalize z.cells.toList = cs at hc
    cases hc
    rfl
  have hz : z = .agg z.cells := by
    cases z with
    | agg cs => rfl
    | _ => exact absurd (show 1 = s by rw [← h7]; rfl) (fun h => hs h.symm)
  have e2 : z.cells = (l.map (Value.int k)).toArray := by rw [← e]
  rw [e2] at hz
  simp [zeroValue, typeInfo, h1, h2, hz]
theorem evMakeMap_ok (hs : Sat w0 M J0 J ρ φ H w) {t : TypeId} {k : K} (h : evMakeMap t H k) : Comes1 P w0 M J0 J ρ w (Instr.makeMap t none) k := by
  have hb : Below w.heap.size w (w.alloc (.map #[] 0)) := (Below.refl _ _).alloc (Nat.le_refl _) _
  obtain ⟨a, b⟩ := hs.name (w' := w.alloc (.map #[] 0)) (c := .mp [] none) (b := w.heap.size) (p := fun r => r = w.heap.size) hb (fun r h => by omega) (fun r h => by show r < (w.heap.push _).size; rw [Array.size_push]; omega)
    (.mp (es := #[]) (clock := 0) (heap_alloc_new w _) rfl .nil (by simp) (by simp) (by simp) (fun s c e => by cases e) (fun r => Iff.rfl))
  exact ⟨_, _, _, _, _, _, J, rfl, h, a, b, .m (upd_same _ _ _)⟩
theorem evLook_ok (hs : Sat w0 M J0 J ρ φ H w) {t : TypeId} {x y : AV} {ok : Bool} {k : K} (h : evLook T t x y ok H k) {u v : Value} (hx : Rep ρ J w x u) (hy : Rep ρ J w y v) : Comes1 P w0 M J0 J ρ w (Instr.lookup t u v ok) k := by
  unfold evLook at h
  split at h
  · rename_i kt vt htd
    split at h
    · rename_i zk zl s by_ hkt hvt hti
      split at h
      · rename_i i n
        split at h
        · rename_i l st hi
          rw [nth_eq] at hi
          cases hx with
          | m hρ =>
            rename_i b
            cases hy
            obtain ⟨b', es, clock, hb', hb, hk, hv, hn, hs', hc, hst, hp⟩ := (hs.hold i _ hi).invM
            rw [hρ] at hb'
            cases hb'
            have hkt' : P.underlying kt = some (.int .i64) := T.hd _ _ hkt
            have htd' : P.underlying t = some (.map kt vt) := T.hd _ _ htd
            have hkey : MapKept.IsKey (.int .i64) (.int .i64 n) := rfl
            cases hsb : Nat.beq s 1
            · rw [hsb] at h
              simp only [cond_false] at h
              obtain ⟨h1, h0⟩ := h
              have hs1 : s ≠ 1 := fun e => by rw [e] at hsb; exact absurd hsb (by decide)
              rcases find_ok n es.toList l 0 hk hv with ⟨f1, -, -, f2⟩ | ⟨v', e, j, f1, f2, f3, f4, -, -, -⟩
              · refine Comes1.same hs (u := if ok then .tuple #[.agg (zl.map (Value.int zk)).toArray, .bool false] else .agg (zl.map (Value.int zk)).toArray) ?_ (h0 f1) ?_
                · simp only [Instr.lookup, Sem.run_bind, run_underlying htd', Result.andThen_ok, MapKept.run_getObj_map hb, Sem.run_pure, MapKept.run_checkKey hkt' hkey, MapKept.run_findKey hkt' f2, zero_ar (T.hi _ _ _ _ hti) hs1]
                · cases ok
                  · exact .arr
                  · exact .tup (.cons .arr (.cons (.v _) .nil))
              · refine Comes1.same hs (u := if ok then .tuple #[e.val, .bool true] else e.val) ?_ (h1 v' f1) ?_
                · simp only [Instr.lookup, Sem.run_bind, run_underlying htd', Result.andThen_ok, MapKept.run_getObj_map hb, Sem.run_pure, MapKept.run_checkKey hkt' hkey, MapKept.run_findKey hkt' f2]
                · cases ok
                  · exact f3
                  · exact .tup (.cons f3 (.cons (.v _) .nil))
            · rw [hsb] at h; exact absurd h id
        · exact absurd h id
      · exact absurd h id
    · exact absurd h id
  · exact absurd h id
theorem reps_set : ∀ {xs : List AV} {vs : List Value} {x : AV} {u : Value} (j : Nat), Reps ρ J w xs vs → Rep ρ J w x u → Reps ρ J w (xs.set j x) (vs.set j u)
  | _, _, _, _, _, .nil, _ => .nil
  | _, _, _, _, 0, .cons _ hs, hx => .cons hx hs
  | _, _, _, _, j + 1, .cons h hs, hx => .cons h (reps_set j hs hx)
theorem evUpd_ok (hs : Sat w0 M J0 J ρ φ H w) {t : TypeId} {x y z : AV} {k : K} (h : evUpd T t x y z H k) {u v q : Value} (hx : Rep ρ J w x u) (hy : Rep ρ J w y v) (hz : Rep ρ J w z q) :
    ∃ w' H' φ', (Instr.mapUpdate t u v q).run P w = .ok () w' ∧ k (.v undef) H' ∧ Sat w0 M J0 J ρ φ' H' w' ∧ Grow ρ ρ J J w w' := by
  unfold evUpd at h
  split at h
  · rename_i kt vt htd
    split at h
    · rename_i hkt
      split at h
      · rename_i i n
        split at h
        · rename_i l st hi
          rw [nth_eq] at hi
          cases hx with
          | m hρ =>
            rename_i b
            cases hy
            have hh := hs.hold i _ hi
            obtain ⟨b', es, clock, hb', hb, hk, hv, hn, hsn, hc, hst, hp⟩ := hh.invM
            rw [hρ] at hb'
            cases hb'
            have hkt' : P.underlying kt = some (.int .i64) := T.hd _ _ hkt
            have htd' : P.underlying t = some (.map kt vt) := T.hd _ _ htd
            have hkey : MapKept.IsKey (.int .i64) (.int .i64 n) := rfl
            have bl : b < w.heap.size := (Array.getElem?_eq_some_iff.1 hb).1
            have put : ∀ es' : Array MapEntry, ∀ clock' : Nat, es'.toList.map (fun e => e.key) = (upm n z l).map (fun x => Value.int .i64 x.1) →
                (∀ (w' : World), Grow ρ ρ J J w w' → Reps ρ J w' ((upm n z l).map (fun x => x.2)) (es'.toList.map (fun e => e.val))) → ((upm n z l).map (fun x => x.1)).Nodup → (es'.toList.map (fun e => e.born)).Nodup → (∀ e ∈ es'.toList, e.born < clock') →
                ∃ H' φ', k (.v undef) H' ∧ Sat w0 M J0 J ρ φ' H' { w with heap := w.heap.setIfInBounds b (.map es' clock') } ∧ Grow ρ ρ J J w { w with heap := w.heap.setIfInBounds b (.map es' clock') } := by
              intro es' clock' c1 c2 c3 c4 c5
              obtain ⟨g1, g2⟩ := MapKept.heap_set (o' := .map es' clock') hb
              have hphi : ∀ r, φ i r ↔ r = b := hp
              have hg : Grow ρ ρ J J w { w with heap := w.heap.setIfInBounds b (.map es' clock') } := ⟨fun _ _ h => h, fun _ _ h => h, fun g r hr => g2 r (fun e => hs.jdis g i r ((hphi r).2 e) hr)⟩
              obtain ⟨a1, a2⟩ := hs.put (w' := { w with heap := w.heap.setIfInBounds b (.map es' clock') }) (i := i) (c := .mp (upm n z l) none) (p' := fun r => r = b) (fun r hr => .inl ((hphi r).2 hr)) (fun r hr => by subst hr; show r < (w.heap.setIfInBounds r _).size; simpa using bl)
                (fun r _ hr => g2 r (fun e => hr ((hphi r).2 e))) (by simp) rfl rfl rfl (lt_of_get hi) (by
                  rw [hρ]
                  exact .mp g1 c1 (c2 _ hg) c3 c4 c5 (fun s c e => by cases e) (fun r => Iff.rfl))
              exact ⟨_, _, h, a1, a2⟩
            rcases find_ok n es.toList l 0 hk hv with ⟨f1, f2, f3, f4⟩ | ⟨v', e, j, f1, f2, f3, f4, f5, f6, f7⟩
            · obtain ⟨H', φ', p1, p2, p3⟩ := put (es.push { key := .int .i64 n, val := q, born := clock }) (clock + 1) (by rw [f2]; simp [hk]) (fun w' hg => by
                rw [f2]
                simp only [List.map_append, List.map_cons, List.map_nil, Array.toList_push]
                exact (Reps.mono hg hv).append (.cons (hz.mono hg) .nil)) (by rw [f2]; simp only [List.map_append, List.map_cons, List.map_nil]; exact List.nodup_append.2 ⟨hn, by simp, by intro a ha b hb; simp at hb; subst hb; intro e; subst e; exact f3 ha⟩) (by
                simp only [Array.toList_push, List.map_append, List.map_cons, List.map_nil]
                refine List.nodup_append.2 ⟨hsn, by simp, ?_⟩
                intro a ha b hb
                simp at hb
                subst hb
                intro e
                subst e
                rw [List.mem_map] at ha
                obtain ⟨e0, he0, he1⟩ := ha
                have := hc e0 he0
                omega) (by
                intro e he
                simp only [Array.toList_push] at he
                rcases List.mem_append.1 he with he | he
                · have := hc e he; omega
                · simp at he; subst he; simp)
              exact ⟨_, H', φ', by simp [Instr.mapUpdate, run_underlying htd', MapKept.run_getObj_map hb, MapKept.run_checkKey hkt' hkey, MapKept.run_findKey hkt' f4, MapKept.run_setObj_map _ hb, Result.andThen], p1, p2, p3⟩
            · have hj : es[j]? = some e := by simpa using f4
              have hmod : (es.modify j fun e => { e with key := .int .i64 n, val := q }).toList = es.toList.set j { e with key := .int .i64 n, val := q } := by
                rw [Array.toList_modify]
                apply List.ext_getElem?
                intro m
                rw [List.getElem?_modify, List.getElem?_set]
                by_cases hm : j = m
                · subst hm
                  rw [f4]
                  have hjl := lt_of_get f4
                  rw [if_pos rfl, if_pos hjl]
                  simp
                · simp [hm]
              obtain ⟨H', φ', p1, p2, p3⟩ := put (es.modify j fun e => { e with key := .int .i64 n, val := q }) clock (by
                rw [f6, hmod, List.map_set, List.map_set, hk]) (fun w' hg => by
                rw [f6, hmod, List.map_set, List.map_set]
                exact reps_set j (Reps.mono hg hv) (hz.mono hg)) (by
                rw [f6, List.map_set]
                have : (l.map (fun x => x.1)).set j n = l.map (fun x => x.1) := by
                  apply List.ext_getElem?
                  intro m
                  rw [List.getElem?_set]
                  split
                  · rename_i hm
                    subst hm
                    rw [List.getElem?_map]
                    cases hlj : l[j]? with
                    | none => rw [hlj] at f7; cases f7
                    | some p => rw [hlj] at f7; simp at f7; simp [f7, lt_of_get hlj]
                  · rfl
                rw [this]
                exact hn) (by
                rw [hmod, List.map_set]
                have : (es.toList.map (fun e => e.born)).set j e.born = es.toList.map (fun e => e.born) := by
                  apply List.ext_getElem?
                  intro m
                  rw [List.getElem?_set]
                  split
                  · rename_i hm
                    subst hm
                    rw [List.getElem?_map, f4]
                    simpa using lt_of_get f4
                  · rfl
                rw [this]
                exact hsn) (by
                intro e' he'
                rw [hmod] at he'
                rcases List.mem_or_eq_of_mem_set he' with he' | he'
                · exact hc e' he'
                · rw [he']; exact hc e (List.mem_of_getElem? f4))
              refine ⟨_, H', φ', ?_, p1, p2, p3⟩
              have hkk : ((es[j]?).map (fun x => x.key)).getD (.int .i64 n) = .int .i64 n := by rw [hj]; exact f5
              have f2' : Instr.findNow (.int .i64) (.int .i64 n) es.toList 0 = some (some (j, e.val)) := by rw [f2]; simp
              simp [Instr.mapUpdate, run_underlying htd', MapKept.run_getObj_map hb, MapKept.run_checkKey hkt' hkey, MapKept.run_findKey hkt' f2', hj, f5, MapKept.run_keyThatStays hkey, MapKept.run_setObj_map _ hb, Result.andThen]
        · exact absurd h id
      · exact absurd h id
    · exact absurd h id
  · exact absurd h id
end
end Go.Proofs.Ytcfmlnddmpiemaa.Sx


namespace Go.Proofs.Ytcfmlnddmpiemaa.Sx
open Go.RowKit
open Go.ChangeMaps (setBlock)
/-! ### Going through a map -/
structure RangeP (n : Nat) (k : List Nat → Nat → Prop) : Prop where
  out : ∀ (s : List Nat) (c : Nat), s.length = n → s.Nodup → (∀ a ∈ s, a < c) → k s c
structure NextP (s seen : List Nat) (k1 : Nat → Prop) (k0 : Prop) : Prop where
  step : ∀ b, b ∈ s → b ∉ seen → k1 b
  over : (∀ b ∈ s, b ∈ seen) → k0
structure EntryP (l : List (Int × AV)) (s seen : List Nat) (k : Int → AV → Prop) : Prop where
  ex : ∃ b, seen.getLast? = some b ∧ b ∈ s
  out : ∀ (j : Nat) (b : Nat) (a : Int) (v : AV), seen.getLast? = some b → s[j]? = some b → l[j]? = some (a, v) → k a v
section
variable {P : Program} (T : Tab P)
def evRange (t : TypeId) (x : AV) (H : List Chunk) (k : K) : Prop :=
  match T.td t with
  | some (.mp _ _) => match x with
    | .m i => match nth H i with
      | some (.mp l _) => RangeP l.length (fun s c => k (.p H.length 0 1 0) (H.set i (.mp l (some (s, c))) ++ [.it i c c []]))
      | _ => False
    | _ => False
  | _ => False
def evNext (x : AV) (str : Bool) (H : List Chunk) (k : K) : Prop :=
  cond str False (match x with
  | .p i 0 1 0 => match nth H i with
    | some (.it m since last seen) => match nth H m with
      | some (.mp l (some (s, c))) => VC (since = c ∧ last = c) ∧ NextP s seen (fun b => k (.tup [.v (.bool true), .any, .any]) (H.set i (.it m since c (seen ++ [b])))) (k (.tup [.v (.bool false)]) H)
      | _ => False
    | _ => False
  | _ => False)
def evEntry (x : AV) (H : List Chunk) (k : K) : Prop :=
  match x with
  | .p i 0 1 0 => match nth H i with
    | some (.it m since last seen) => match nth H m with
      | some (.mp l (some (s, c))) => VC (last = c) ∧ EntryP l s seen (fun a v => k (.tup [.v (.int .i64 a), v]) H)
      | _ => False
    | _ => False
  | _ => False
end
section
variable {P : Program} {T : Tab P} {w0 : World} {M : Nat → Prop} {J0 : B0} {J : Bool → Nat → Prop} {ρ : Nat → Option Nat} {φ : Nat → Nat → Prop} {H : List Chunk} {w : World}
theorem Holds.invI {m since last : Nat} {seen : List Nat} {b : Option Nat} {p : Nat → Prop} (h : Holds J w ρ (.it m since last seen) b p) :
    ∃ b' bm, b = some b' ∧ ρ m = some bm ∧ w.heap[b']? = some (.mapIter (some bm) since seen.toArray last) ∧ ∀ r, p r ↔ r = b' := by
  cases h with
  | it hm hb hp => exact ⟨_, _, rfl, hm, hb, hp⟩
theorem evRange_ok (hs : Sat w0 M J0 J ρ φ H w) {t : TypeId} {x : AV} {k : K} (h : evRange T t x H k) {u : Value} (hx : Rep ρ J w x u) : Comes1 P w0 M J0 J ρ w (Instr.range t u) k := by
  unfold evRange at h
  split at h
  · rename_i kt vt htd
    split at h
    · rename_i i
      split at h
      · rename_i l st hi
        rw [nth_eq] at hi
        cases hx with
        | m hρ =>
          rename_i b
          obtain ⟨b', es, clock, hb', hb, hk, hv, hn, hsn, hc, hst, hp⟩ := (hs.hold i _ hi).invM
          rw [hρ] at hb'
          cases hb'
          have htd' : P.underlying t = some (.map kt vt) := T.hd _ _ htd
          have hlen : es.toList.length = l.length := by have := congrArg List.length hk; simpa using this
          have h' := h.out (es.toList.map (fun e => e.born)) clock (by rw [List.length_map, hlen]) hsn (fun a ha => by rw [List.mem_map] at ha; obtain ⟨e, he, rfl⟩ := ha; exact hc e he)
          obtain ⟨s1, g1⟩ := hs.put (w' := w) (i := i) (c := .mp l (some (es.toList.map (fun e => e.born), clock))) (p' := φ i) (fun r hr => .inl hr) (fun r hr => hs.lt i r hr) (fun _ _ _ => rfl) (Nat.le_refl _) rfl rfl rfl (lt_of_get hi) (by
            rw [hρ]
            exact .mp hb hk hv hn hsn hc (fun s c e => by cases e; exact ⟨rfl, rfl⟩) hp)
          have hbl : Below w.heap.size w (w.alloc (.mapIter (some b) clock #[] clock)) := (Below.refl _ _).alloc (Nat.le_refl _) _
          have hil := lt_of_get hi
          obtain ⟨a1, a2⟩ := s1.name (w' := w.alloc (.mapIter (some b) clock #[] clock)) (c := .it i clock clock []) (b := w.heap.size) (p := fun r => r = w.heap.size) hbl (fun r h => by omega) (fun r h => by show r < (w.heap.push _).size; rw [Array.size_push]; omega)
            (.it (by rw [List.length_set, upd_other _ _ _ (by omega)]; exact hρ) (heap_alloc_new w _) (fun r => Iff.rfl))
          rw [List.length_set] at a1 a2
          refine ⟨.pointer (some ⟨w.heap.size, 0, none⟩), _, _, _, _, _, J, ?_, h', a1, a2, ?_⟩
          · simp [Instr.range, run_underlying htd', MapKept.run_getObj_map hb, Result.andThen, newObj, Sem.run]
          · have := Rep.p (J := J) (w := w.alloc (.mapIter (some b) clock #[] clock)) (e := 0) (sz := 1) (o := 0) (upd_same ρ H.length (some w.heap.size))
            simpa using this
      · exact absurd h id
    · exact absurd h id
  · exact absurd h id
theorem p_zero {i : Nat} {u : Value} (h : Rep ρ J w (.p i 0 1 0) u) : ∃ b, ρ i = some b ∧ u = .pointer (some ⟨b, 0, none⟩) := by
  cases h with
  | p h => exact ⟨_, h, rfl⟩
theorem evNext_ok (hs : Sat w0 M J0 J ρ φ H w) {x : AV} {str : Bool} {k : K} (h : evNext x str H k) {u : Value} (hx : Rep ρ J w x u) (ty : TypeId) : Comes1 P w0 M J0 J ρ w (Instr.next u str ty) k := by
  unfold evNext at h
  cases str with
  | true => exact absurd h id
  | false =>
  simp only [cond_false] at h
  split at h
  · rename_i i
    split at h
    · rename_i m since last seen hi
      split at h
      · rename_i l s c hm
        rw [nth_eq] at hi hm
        obtain ⟨⟨hsc, hlc⟩, h⟩ := h
        subst hsc hlc
        obtain ⟨b, hρ, rfl⟩ := p_zero hx
        obtain ⟨b', bm, hb', hρm, hb, hp⟩ := (hs.hold i _ hi).invI
        rw [hρ] at hb'
        cases hb'
        obtain ⟨bm', es, clock, hbm', hbm, hk, hv, hn, hsn, hc, hst, hpm⟩ := (hs.hold m _ hm).invM
        rw [hρm] at hbm'
        cases hbm'
        obtain ⟨hs1, hs2⟩ := hst _ _ rfl
        subst hs2
        have hil := lt_of_get hi
        rcases run_next_at (P := P) w ty b bm clock clock seen.toArray es clock hb hbm hc (Nat.le_refl _) with ⟨h0, hrun⟩ | ⟨e, he, w1, hw1, hrun⟩
        · refine Comes1.same hs hrun (h.over (fun a ha => ?_)) (.tup (.cons (.v _) .nil))
          rw [← hs1, List.mem_map] at ha
          obtain ⟨e, he, rfl⟩ := ha
          have h0 : (leftOf es seen.toArray) = #[] := Array.eq_empty_of_size_eq_zero h0
          unfold leftOf at h0
          rw [Array.filter_eq_empty_iff] at h0
          have := h0 e (by simpa using he)
          simpa using this
        · have he2 : e ∈ es.toList ∧ e.born ∉ seen := by
            unfold leftOf at he
            simpa using he
          have ws : w1.heap = w.heap ∧ w1.os = w.os ∧ w1.tape = w.tape ∧ w1.output = w.output := by rcases hw1 with rfl | rfl <;> exact ⟨rfl, rfl, rfl, rfl⟩
          have bl : b < w.heap.size := (Array.getElem?_eq_some_iff.1 hb).1
          obtain ⟨g1, g2⟩ := MapKept.heap_set (w := w) (o' := .mapIter (some bm) clock (seen.toArray.push e.born) clock) hb
          have hh : (setBlock w1 b (.mapIter (some bm) clock (seen.toArray.push e.born) clock)).heap = w.heap.setIfInBounds b (.mapIter (some bm) clock (seen.toArray.push e.born) clock) := by show w1.heap.setIfInBounds _ _ = _; rw [ws.1]
          obtain ⟨a1, a2⟩ := hs.put (w' := setBlock w1 b (.mapIter (some bm) clock (seen.toArray.push e.born) clock)) (i := i) (c := .it m clock clock (seen ++ [e.born])) (p' := fun r => r = b) (fun r hr => .inl ((hp r).2 hr)) (fun r hr => by subst hr; rw [hh]; simpa using bl)
            (fun r _ hr => by rw [hh]; exact g2 r (fun e => hr ((hp r).2 e))) (by rw [hh]; simp) ws.2.1 ws.2.2.1 ws.2.2.2 hil (by
              rw [hρ]
              exact .it hρm (by rw [hh]; simpa using g1) (fun r => Iff.rfl))
          exact ⟨_, _, _, _, ρ, _, J, hrun, h.step e.born (by rw [← hs1, List.mem_map]; exact ⟨e, he2.1, rfl⟩) he2.2, a1, a2, .tup (.cons (.v _) (.cons (.any _) (.cons (.any _) .nil)))⟩
      · exact absurd h id
    · exact absurd h id
  · exact absurd h id
theorem evEntry_ok (hs : Sat w0 M J0 J ρ φ H w) {x : AV} {k : K} (h : evEntry x H k) {u : Value} (hx : Rep ρ J w x u) : Comes1 P w0 M J0 J ρ w (Instr.entry u) k := by
  unfold evEntry at h
  split at h
  · rename_i i
    split at h
    · rename_i m since last seen hi
      split at h
      · rename_i l s c hm
        rw [nth_eq] at hi hm
        obtain ⟨⟨hlc⟩, h⟩ := h
        subst hlc
        obtain ⟨b, hρ, rfl⟩ := p_zero hx
        obtain ⟨b', bm, hb', hρm, hb, hp⟩ := (hs.hold i _ hi).invI
        rw [hρ] at hb'
        cases hb'
        obtain ⟨bm', es, clock, hbm', hbm, hk, hv, hn, hsn, hc, hst, hpm⟩ := (hs.hold m _ hm).invM
        rw [hρm] at hbm'
        cases hbm'
        obtain ⟨hs1, hs2⟩ := hst _ _ rfl
        subst hs2
        obtain ⟨ex, out⟩ := h
        obtain ⟨a, ha1, ha2⟩ := ex
        obtain ⟨j, hj, hja⟩ := List.getElem_of_mem ha2
        have hsj : s[j]? = some a := by rw [List.getElem?_eq_getElem hj, hja]
        have hej : ∃ e, es.toList[j]? = some e ∧ e.born = a := by
          rw [← hs1, List.getElem?_map] at hsj
          cases h2 : es.toList[j]? with
          | none => rw [h2] at hsj; cases hsj
          | some e => rw [h2] at hsj; exact ⟨e, rfl, by simpa using hsj⟩
        obtain ⟨e, he1, he2⟩ := hej
        have hlj : ∃ p, l[j]? = some p ∧ e.key = .int .i64 p.1 := by
          have := congrArg (fun q => q[j]?) hk
          simp only [List.getElem?_map, he1] at this
          cases h2 : l[j]? with
          | none => rw [h2] at this; cases this
          | some p => rw [h2] at this; exact ⟨p, rfl, by simpa using this⟩
        obtain ⟨p, hp1, hp2⟩ := hlj
        have hv2 : Rep ρ J w p.2 e.val := by
          obtain ⟨u, hu1, hu2⟩ := hv.get (i := j) (by rw [List.getElem?_map, hp1]; rfl : (l.map (fun x => x.2))[j]? = some p.2)
          rw [List.getElem?_map, he1] at hu1
          cases hu1
          exact hu2
        have hseen : ∃ t, seen = t ++ [a] := by
          rcases List.eq_nil_or_concat seen with h | ⟨t, x, h⟩
          · rw [h] at ha1; cases ha1
          · rw [h] at ha1
            simp at ha1
            subst ha1
            exact ⟨t, by simpa using h⟩
        obtain ⟨t, rfl⟩ := hseen
        have hrun := run_entry_at (P := P) w b bm since t.toArray es clock e (by rw [he2]; simpa using hb) hbm (List.mem_of_getElem? he1) hsn
        refine Comes1.same hs hrun (out j a p.1 p.2 ha1 hsj hp1) (.tup (.cons ?_ (.cons hv2 .nil)))
        rw [hp2]
        exact .v _
      · exact absurd h id
    · exact absurd h id
  · exact absurd h id
end
end Go.Proofs.Ytcfmlnddmpiemaa.Sx


namespace Go.Proofs.Ytcfmlnddmpiemaa.Sx
open Go.RowKit
/-- The function is one of the program's, with a text. -/
def Real (P : Program) (f : FuncId) : Prop := ∃ fn, P.funcs[f]? = some fn ∧ (fn.name == "runtime.NumGoroutine") = false ∧ fn.body.isNone = false
/-- A call, by what is known of the function. -/
structure CallP (P : Program) (f : FuncId) (avs : List AV) (H : List Chunk) (k : K) : Prop where
  out : ∃ S, Real P f ∧ SpecOk P f S ∧ S avs H k
section
variable {P : Program} (T : Tab P)
def opdo (E : Env) : Option Operand → Option (Option AV)
  | none => some none
  | some x => match opd E x with
    | some v => some (some v)
    | none => none
def evCall (c : Call) (E : Env) (H : List Chunk) (k : K) : Prop :=
  match opds E c.args.toList with
  | none => False
  | some avs => match c.callee with
    | .builtin .len => evLen T c.argTypes.toList avs H k
    | .builtin .min => evMM false avs H k
    | .builtin .max => evMM true avs H k
    | .builtin .append => evAppend T c.argTypes.toList avs H k
    | .builtin .copy => evCopy T c.argTypes.toList avs H k
    | .value (.func f) => CallP P f avs H k
    | _ => False
def evOp (g : Bool) (o : Oper) (E : Env) (H : List Chunk) (k : K) : Prop :=
  match o.op with
  | .move x | .assign x => match opd E x with
    | some v => k v H
    | none => False
  | .pick c a b => match opd E c, opd E a, opd E b with
    | some (.v (.bool c)), some x, some y => If c (k x H) (k y H)
    | _, _, _ => False
  | .alloc t => evAlloc T t H k
  | .box t x => match opd E x with
    | some v => evBox t v H k
    | none => False
  | .build t ps => evBuild T t E ps.toList H k
  | .buildSlice t n ps => evBuildSlice T t n E ps.toList H k
  | .load t x => match opd E x with
    | some v => evLoad T t v H k
    | none => False
  | .store t x y => match opd E x, opd E y with
    | some v, some u => evStore T t v u H k
    | _, _ => False
  | .nilCheck x => match opd E x with
    | some v => evNil v H k
    | none => False
  | .binOp op t x y _ => match opd E x, opd E y with
    | some u, some v => evBin T g op t u v H k
    | _, _ => False
  | .unOp op _ x => match opd E x with
    | some u => evUn g op u H k
    | none => False
  | .convert s d x => match opd E x with
    | some u => evConvY T g s d u H k
    | none => False
  | .makeInterface t x => match opd E x with
    | some u => evIfc T t u H k
    | none => False
  | .makeSlice t l c => match opd E l, opd E c with
    | some u, some v => evMake T t u v H k
    | _, _ => False
  | .slice t x lo hi none => match opd E x, opdo E lo, opdo E hi with
    | some u, some l, some h => evSlice T t u l h H k
    | _, _, _ => False
  | .fieldAddr t x f => match opd E x with
    | some u => evFieldAddr T t u f H k
    | none => False
  | .field t x f => match opd E x with
    | some u => evField T t u f H k
    | none => False
  | .indexAddr t x i => match opd E x, opd E i with
    | some u, some v => evIndexAddr T t u v H k
    | _, _ => False
  | .extract x i => match opd E x with
    | some u => evExtract u i H k
    | none => False
  | .call c => evCall T c E H k
  | .makeMap t none => evMakeMap t H k
  | .lookup t x i ok => match opd E x, opd E i with
    | some u, some v => evLook T t u v ok H k
    | _, _ => False
  | .mapUpdate t x i y => match opd E x, opd E i, opd E y with
    | some u, some v, some z => evUpd T t u v z H k
    | _, _, _ => False
  | .range t x => match opd E x with
    | some u => evRange T t u H k
    | none => False
  | .next x str => match opd E x with
    | some u => evNext u str H k
    | none => False
  | .entry x => match opd E x with
    | some u => evEntry u H k
    | none => False
  | _ => False
def oNil : Env → List Chunk → (Env → List Chunk → Prop) → Prop := fun E H k => k E H
def oCons (n : Nat) (g : List Nat) (all : List Oper) (o : Oper) (_ : List Oper) (ih : Env → List Chunk → (Env → List Chunk → Prop) → Prop) : Env → List Chunk → (Env → List Chunk → Prop) → Prop := fun E H k => match o.guard with
    | none => evOp T (memb o.dst g) o E H (comp (fun v H' => putE n o.dst v E (fun E' => ih E' H' k)))
    | some (j, want) => match nth all j with
      | some oj => match oj.dst with
        | some d => match lk E d with
          | some (.v (.bool b)) =>
            IfW want b (evOp T (memb o.dst g) o ((d, .v (.bool want)) :: E) H (comp (fun v H' => putE n o.dst v ((d, .v (.bool want)) :: E) (fun E' => ih E' H' k))))
            (putE n o.dst (.v undef) ((d, .v (.bool (!want))) :: E) (fun E' => ih E' H k))
          | some (.v (.tuple _)) => putE n o.dst (.v undef) E (fun E' => ih E' H k)
          | _ => False
        | none => False
      | none => False
def evOps (n : Nat) (g : List Nat) (all : List Oper) (l : List Oper) : Env → List Chunk → (Env → List Chunk → Prop) → Prop :=
  List.rec (motive := fun _ => Env → List Chunk → (Env → List Chunk → Prop) → Prop) oNil (oCons T n g all) l
end
section
variable {P : Program} {T : Tab P} {w0 : World} {M : Nat → Prop} {J0 : B0} {J : Bool → Nat → Prop} {ρ : Nat → Option Nat} {φ : Nat → Nat → Prop} {H : List Chunk} {w : World} {n : Nat} {E : Env} {a : Act}
theorem wp_of_comes {o : Oper} {s : Sem Value} {k : K} (he : execOp a.eval o = (do pure (.value (← s)) : Sem Next)) (hc : Comes1 P w0 M J0 J ρ w s k) {next : Act → World → Prop} {Q : Exit → Act → World → Prop}
    (hn : ∀ u v H' ρ' φ' J' w', k v H' → Sat w0 M J0 J' ρ' φ' H' w' → Grow ρ ρ' J J' w w' → Rep ρ' J' w' v u → next (a.put o.dst u) w') : o.wp P a w next Q := by
  obtain ⟨u, w', v, H', ρ', φ', J', hr, hk, hs, hg, hv⟩ := hc
  unfold Oper.wp
  rw [he, Sem.run_bind, hr]
  exact hn u v H' ρ' φ' J' w' hk hs hg hv
theorem evCall_ok (hs : Sat w0 M J0 J ρ φ H w) (he : EnvOk n ρ J w E a) {o : Oper} {c : Call} (ho : o.op = .call c) {k : K} (h : evCall T c E H k) {next : Act → World → Prop} {Q : Exit → Act → World → Prop}
    (hn : ∀ u v H' ρ' φ' J' w', k v H' → Sat w0 M J0 J' ρ' φ' H' w' → Grow ρ ρ' J J' w w' → Rep ρ' J' w' v u → next (a.put o.dst u) w') : o.wp P a w next Q := by
  unfold evCall at h
  split at h
  · exact absurd h id
  · rename_i avs hargs
    have hr := he.opds hargs
    have hm : c.args.map a.eval = (c.args.toList.map a.eval).toArray := by rw [← Array.toList_map]
    have bi : ∀ (b : Builtin) (s : Sem Value), c.callee = .builtin b → (∀ ty cs, builtin b c.argTypes ty cs (c.args.map a.eval) = (do pure (.value (← s)) : Sem Next)) → Comes1 P w0 M J0 J ρ w s k → o.wp P a w next Q := by
      intro b s hb hs' hc
      refine wp_of_comes (s := s) ?_ hc hn
      unfold execOp
      rw [ho]
      simp only [resolve, hb]
      exact hs' _ _
    have e1 : c.argTypes = c.argTypes.toList.toArray := by simp
    split at h
    · rename_i hb
      refine bi .len (Builtin.len_ c.argTypes o.type (c.args.map a.eval)) hb (fun ty cs => rfl) ?_
      rw [hm, e1]; exact (evLen_ok hs hr h _).comes hs
    · rename_i hb
      refine bi .min (Builtin.min_ c.argTypes o.type (c.args.map a.eval)) hb (fun ty cs => rfl) ?_
      rw [hm]; exact (evMM_ok (mx := false) (ts := c.argTypes) hs hr h o.type).comes hs
    · rename_i hb
      refine bi .max (Builtin.max_ c.argTypes o.type (c.args.map a.eval)) hb (fun ty cs => rfl) ?_
      rw [hm]; exact (evMM_ok (mx := true) (ts := c.argTypes) hs hr h o.type).comes hs
    · rename_i hb
      refine wp_of_comes (s := Builtin.append_ c.argTypes o.type (c.args.map a.eval)) ?_ ?_ hn
      · unfold execOp; rw [ho]; simp only [resolve, hb]; rfl
      · rw [hm, e1]; exact evAppend_ok hs hr h _
    · rename_i hb
      refine wp_of_comes (s := Builtin.copy_ c.argTypes o.type (c.args.map a.eval)) ?_ ?_ hn
      · unfold execOp; rw [ho]; simp only [resolve, hb]; rfl
      · rw [hm, e1]; exact evCopy_ok hs hr h _
    · rename_i f hb
      obtain ⟨⟨S, ⟨fn, hf, hname, hbody⟩, hS, h⟩⟩ := h
      have hcall := hS avs H k w0 M J0 J ρ φ w _ h hs hr
      have hrun : (execOp a.eval o).run P w = .ok (.enter f (c.args.toList.map a.eval).toArray) w := by
        unfold execOp
        rw [ho]
        simp only [resolve, hb, Act.eval, Deferred.ofValue, Sem.run_bind, Sem.run_pure, Result.andThen_ok, invoke, callFunc, run_program, hf, hname, hbody]
        rw [hm]; simp
      unfold Oper.wp
      rw [hrun, Oper.upon_enter]
      refine hcall.mono fun e w' hq => ?_
      obtain ⟨u, v, H', ρ', φ', J', rfl, hk, hs', hg, hv⟩ := hq
      exact hn u v H' ρ' φ' J' w' hk hs' hg hv
    · exact absurd h id
def _root_.Go.Value.solid : Value → Bool
  | .pointer none | .nilIface | .nilFunc => false
  | .func (.func _) _ _ => true
  | .func _ _ _ => false
  | _ => true
theorem bnd (he : EnvOk n ρ J w E a) {x : Option Operand} {l : Option AV} (h : opdo E x = some l) : Bnd ρ J w l (x.map a.eval) := by
  cases x with
  | none => simp only [opdo, Option.some.injEq] at h; subst h; exact .none
  | some x =>
    unfold opdo at h
    simp only at h
    split at h
    · rename_i v hv
      simp only [Option.some.injEq] at h
      subst h
      exact .some (he.opd hv)
    · cases h
theorem evOp_ok (hs : Sat w0 M J0 J ρ φ H w) (he : EnvOk n ρ J w E a) {g : Bool} {o : Oper} {k : K} (h : evOp T g o E H k) {next : Act → World → Prop} {Q : Exit → Act → World → Prop}
    (hn : ∀ u v H' ρ' φ' J' w', k v H' → Sat w0 M J0 J' ρ' φ' H' w' → Grow ρ ρ' J J' w w' → Rep ρ' J' w' v u → next (a.put o.dst u) w') : o.wp P a w next Q := by
  have ex : ∀ (s : Sem Value), execOp a.eval o = (do pure (.value (← s)) : Sem Next) → Comes1 P w0 M J0 J ρ w s k → o.wp P a w next Q := fun s e hc => wp_of_comes e hc hn
  have val : ∀ (x : Value) (v : AV), execOp a.eval o = pure (.value x) → k v H → Rep ρ J w v x → o.wp P a w next Q := by
    intro x v e hk hr
    unfold Oper.wp
    rw [e]
    exact hn x v H ρ φ J w hk hs (Grow.refl _ _ _) hr
  unfold evOp at h
  split at h <;> rename_i ho
  · split at h
    · rename_i x v hv
      exact val _ v (by unfold execOp; rw [ho]) h (he.opd hv)
    · exact absurd h id
  · split at h
    · rename_i x v hv
      exact val _ v (by unfold execOp; rw [ho]) h (he.opd hv)
    · exact absurd h id
  · rename_i c0 a0 b0
    split at h
    · rename_i c x y hc hx hy
      have hcv := he.opd hc
      generalize hcb : a.eval c0 = cv at hcv
      cases hcv
      have hrun : (execOp a.eval o).run P w = .ok (.value (if c = true then a.eval a0 else a.eval b0)) w := by
        unfold execOp; rw [ho]; simp [hcb, asBool]
      unfold Oper.wp
      rw [hrun]
      cases c
      · exact hn _ y H ρ φ J w (h.f rfl) hs (Grow.refl _ _ _) (he.opd hy)
      · exact hn _ x H ρ φ J w (h.t rfl) hs (Grow.refl _ _ _) (he.opd hx)
    · exact absurd h id
  · exact ex _ (by unfold execOp; rw [ho]) (evAlloc_ok hs h)
  · split at h
    · rename_i t x v hv
      exact ex _ (by unfold execOp; rw [ho]) (evBox_ok hs (he.opd hv) h)
    · exact absurd h id
  · rename_i t ps
    have := evBuild_ok hs he h
    rw [Array.toArray_toList] at this
    exact ex _ (by unfold execOp; rw [ho]) this
  · rename_i t m ps
    have := evBuildSlice_ok hs he h
    rw [Array.toArray_toList] at this
    exact ex _ (by unfold execOp; rw [ho]) this
  · split at h
    · rename_i t x v hv
      exact ex _ (by unfold execOp; rw [ho]) ((evLoad_ok hs h (he.opd hv)).comes hs)
    · exact absurd h id
  · split at h
    · rename_i t x y u v hu hv
      obtain ⟨w', H', φ', hr, hk, hs', hg⟩ := evStore_ok hs h (he.opd hu) (he.opd hv)
      unfold Oper.wp
      have hrun : (execOp a.eval o).run P w = .ok .skip w' := by
        unfold execOp; rw [ho]; simp only [Sem.run_bind, hr]; rfl
      rw [hrun]
      exact hn undef (.v undef) H' ρ φ' J w' hk hs' hg (.v _)
    · exact absurd h id
  · rename_i x
    split at h
    · rename_i v hv
      have hx := he.opd hv
      have same : (∀ y, a.eval x = y → execOp a.eval o = (pure (.value y) : Sem Next)) → k v H → o.wp P a w next Q := fun e hk => val _ v (e _ rfl) hk hx
      have go : k v H → (a.eval x).solid = true → o.wp P a w next Q := by
        intro hk hsol
        refine same (fun y hy => ?_) hk
        unfold execOp
        rw [ho]
        simp only
        rw [hy]
        rw [hy] at hsol
        cases y <;> simp only [Value.solid] at hsol <;> try rfl
        all_goals first | (cases hsol; done) | skip
        · rename_i ad
          cases ad
          · cases hsol
          · rfl
        · rename_i fn fi ca
          cases fn <;> simp only [Value.solid] at hsol <;> first | rfl | (cases hsol; done)
      unfold evNil at h
      split at h
      · generalize a.eval x = y at hx go; cases hx; exact go h rfl
      · generalize a.eval x = y at hx go; cases hx; exact go h rfl
      · generalize a.eval x = y at hx go; cases hx; exact go h rfl
      · generalize a.eval x = y at hx go; cases hx; exact go h rfl
      · exact absurd h id
    · exact absurd h id
  · rename_i op t x y _
    split at h
    · rename_i c d hc hd
      exact ex _ (by unfold execOp; rw [ho]) ((evBin_ok hs (he.opd hc) (he.opd hd) h x y).comes hs)
    · exact absurd h id
  · split at h
    · rename_i op t x c hc
      exact ex _ (by unfold execOp; rw [ho]) ((evUn_ok hs (he.opd hc) h).comes hs)
    · exact absurd h id
  · split at h
    · rename_i s d x c hc
      exact ex _ (by unfold execOp; rw [ho]) (evConvY_ok hs (he.opd hc) h)
    · exact absurd h id
  · split at h
    · rename_i t x c hc
      exact ex _ (by unfold execOp; rw [ho]) ((evIfc_ok hs (he.opd hc) h).comes hs)
    · exact absurd h id
  · split at h
    · rename_i t x y c d hc hd
      exact ex _ (by unfold execOp; rw [ho]) (evMake_ok hs (he.opd hc) (he.opd hd) h)
    · exact absurd h id
  · rename_i t x lo hi
    split at h
    · rename_i c l r hc hl hr
      refine ex (Instr.sliceAt t (a.eval x) (lo.map a.eval) (hi.map a.eval) none) (by unfold execOp; rw [ho]; rfl) ((evSlice_ok hs h (he.opd hc) (bnd he hl) (bnd he hr)).comes hs)
    · exact absurd h id
  · split at h
    · rename_i t x f c hc
      exact ex _ (by unfold execOp; rw [ho]) ((evFieldAddr_ok hs (he.opd hc) h).comes hs)
    · exact absurd h id
  · split at h
    · rename_i t x f c hc
      exact ex _ (by unfold execOp; rw [ho]) ((evField_ok hs (he.opd hc) h).comes hs)
    · exact absurd h id
  · split at h
    · rename_i t x i c d hc hd
      exact ex _ (by unfold execOp; rw [ho]) ((evIndexAddr_ok hs (he.opd hc) (he.opd hd) h).comes hs)
    · exact absurd h id
  · split at h
    · rename_i x i c hc
      exact ex _ (by unfold execOp; rw [ho]) ((evExtract_ok hs (he.opd hc) h).comes hs)
    · exact absurd h id
  · exact evCall_ok hs he ho h hn
  · exact ex _ (by unfold execOp; rw [ho]; rfl) (evMakeMap_ok hs h)
  · split at h
    · rename_i t x i ok c d hc hd
      exact ex _ (by unfold execOp; rw [ho]) (evLook_ok hs h (he.opd hc) (he.opd hd))
    · exact absurd h id
  · split at h
    · rename_i t x i y u v z hu hv hz
      obtain ⟨w', H', φ', hr, hk, hs', hg⟩ := evUpd_ok hs h (he.opd hu) (he.opd hv) (he.opd hz)
      unfold Oper.wp
      have hrun : (execOp a.eval o).run P w = .ok .skip w' := by
        unfold execOp; rw [ho]; simp only [Sem.run_bind, hr]; rfl
      rw [hrun]
      exact hn undef (.v undef) H' ρ φ' J w' hk hs' hg (.v _)
    · exact absurd h id
  · split at h
    · rename_i t x c hc
      exact ex _ (by unfold execOp; rw [ho]) (evRange_ok hs h (he.opd hc))
    · exact absurd h id
  · split at h
    · rename_i x str c hc
      exact ex _ (by unfold execOp; rw [ho]) (evNext_ok hs h (he.opd hc) o.type)
    · exact absurd h id
  · split at h
    · rename_i x c hc
      exact ex _ (by unfold execOp; rw [ho]) (evEntry_ok hs h (he.opd hc))
    · exact absurd h id
  · exact absurd h id
end
end Go.Proofs.Ytcfmlnddmpiemaa.Sx


namespace Go.Proofs.Ytcfmlnddmpiemaa.Sx
open Go.RowKit
/-- The slots that an operation reads. -/
def tmpsOf : List Operand → List Nat
  | [] => []
  | .tmp t :: r => t :: tmpsOf r
  | _ :: r => tmpsOf r
def temps (o : Oper) : List Nat := tmpsOf o.op.operands.toList
def lightK : Op → Bool
  | .move _ | .assign _ | .pick _ _ _ | .load _ _ | .nilCheck _ | .binOp _ _ _ _ _ | .unOp _ _ _ | .makeInterface _ _ | .slice _ _ _ _ none | .fieldAddr _ _ _ | .field _ _ _ | .indexAddr _ _ _ | .extract _ _ | .build _ _ => true
  | .convert s d _ => !(Nat.beq s d)
  | .call c => match c.callee with
    | .builtin .len | .builtin .min | .builtin .max => true
    | _ => false
  | _ => false
section
variable {P : Program} {T : Tab P}
theorem opd_congr {E F : Env} {xs : List Operand} (h : ∀ t ∈ tmpsOf xs, lk F t = lk E t) : ∀ x ∈ xs, opd F x = opd E x := by
  induction xs with
  | nil => intro x hx; cases hx
  | cons y r ih =>
    intro x hx
    rcases List.mem_cons.1 hx with rfl | hx
    · cases x with
      | tmp t => exact h t (by simp [tmpsOf])
      | _ => rfl
    · refine ih (fun t ht => h t ?_) x hx
      cases y <;> simp [tmpsOf, ht]
theorem opds_congr {E F : Env} : ∀ {xs : List Operand}, (∀ x ∈ xs, opd F x = opd E x) → opds F xs = opds E xs
  | [], _ => rfl
  | x :: r, h => by
    unfold opds
    rw [h x (by simp), opds_congr (xs := r) (fun y hy => h y (by simp [hy]))]
theorem opdo_congr {E F : Env} {x : Option Operand} (h : ∀ y ∈ x, opd F y = opd E y) : opdo F x = opdo E x := by
  cases x with
  | none => rfl
  | some y => simp only [opdo]; rw [h y rfl]
theorem fillL_congr {E F : Env} (pl : Nat → Option (Nat × Nat)) : ∀ {ps : List (Nat × Operand)} {l : List AV}, (∀ x ∈ ps.map (·.2), opd F x = opd E x) → fillL pl F l ps = fillL pl E l ps
  | [], _, _ => rfl
  | (i, x) :: r, l, h => by
    unfold fillL
    rw [h x (by simp)]
    have ih : ∀ l', fillL pl F l' r = fillL pl E l' r := fun l' => fillL_congr pl (fun y hy => h y (by simp at hy ⊢; exact .inr hy))
    simp only [ih]
theorem evOp_congr {g : Bool} {o : Oper} {E F : Env} {H : List Chunk} {k : K} (hE : ∀ t ∈ temps o, lk F t = lk E t) (h : evOp T g o E H k) : evOp T g o F H k := by
  have hc := opd_congr (xs := o.op.operands.toList) hE
  unfold evOp at h ⊢
  cases ho : o.op <;> rw [ho] at h hc <;> simp only [Op.operands] at hc h ⊢
  case slice t x lo hi mx =>
    cases mx with
    | some _ => exact absurd h id
    | none =>
      have h1 : opd F x = opd E x := hc x (by simp)
      have h2 : opdo F lo = opdo E lo := opdo_congr (fun y hy => hc y (by cases hy; simp))
      have h3 : opdo F hi = opdo E hi := opdo_congr (fun y hy => hc y (by cases hy; simp))
      simp only [h1, h2, h3]
      exact h
  case build t ps =>
    unfold evBuild at h ⊢
    have : ∀ (pl : Nat → Option (Nat × Nat)) l, fillL pl F l ps.toList = fillL pl E l ps.toList := fun pl l => fillL_congr pl (fun x hx => hc x (by simpa using hx))
    simp only [this]; exact h
  case buildSlice t n ps =>
    unfold evBuildSlice at h ⊢
    have : ∀ (pl : Nat → Option (Nat × Nat)) l, fillL pl F l ps.toList = fillL pl E l ps.toList := fun pl l => fillL_congr pl (fun x hx => hc x (by simpa using hx))
    simp only [this]; exact h
  case call c =>
    unfold evCall at h ⊢
    have : opds F c.args.toList = opds E c.args.toList := opds_congr (fun x hx => hc x (by simp [Call.operands]; right; simpa using hx))
    rw [this]; exact h
  case pick c a b => simp only [hc c (by simp), hc a (by simp), hc b (by simp)]; exact h
  case lookup t x i ok => simp only [hc x (by simp), hc i (by simp)]; exact h
  case mapUpdate t x i y => simp only [hc x (by simp), hc i (by simp), hc y (by simp)]; exact h
  case range t x => simp only [hc x (by simp)]; exact h
  case next x s => simp only [hc x (by simp)]; exact h
  case entry x => simp only [hc x (by simp)]; exact h
  case makeMap t r => cases r <;> exact h
  case store t a b => simp only [hc a (by simp), hc b (by simp)]; exact h
  case binOp op t a b t' => simp only [hc a (by simp), hc b (by simp)]; exact h
  case makeSlice t a b => simp only [hc a (by simp), hc b (by simp)]; exact h
  case indexAddr t a b => simp only [hc a (by simp), hc b (by simp)]; exact h
  case move x => simp only [hc x (by simp)]; exact h
  case assign x => simp only [hc x (by simp)]; exact h
  case box t x => simp only [hc x (by simp)]; exact h
  case load t x => simp only [hc x (by simp)]; exact h
  case nilCheck x => simp only [hc x (by simp)]; exact h
  case unOp op t x => simp only [hc x (by simp)]; exact h
  case convert s d x => simp only [hc x (by simp)]; exact h
  case makeInterface t x => simp only [hc x (by simp)]; exact h
  case fieldAddr t x f => simp only [hc x (by simp)]; exact h
  case field t x f => simp only [hc x (by simp)]; exact h
  case extract x i => simp only [hc x (by simp)]; exact h
  all_goals exact h
/-- What only looks comes to one thing. -/
def Det (S : K → Prop) (H : List Chunk) : Prop := ∀ k, S k → ∃ y, k y H ∧ ∀ k' : K, k' y H → S k'
theorem det_opt {o : Option (Prop × AV)} {H : List Chunk} : Det (fun k => match o with
    | some (ψ, y) => VC ψ ∧ k y H
    | none => False) H := by
  intro k h
  cases o with
  | none => exact absurd h id
  | some p => exact ⟨_, h.2, fun k' hk' => ⟨h.1, hk'⟩⟩
theorem evAt_det {t : TypeId} {d : TD} {c : Cont} {e sz o : Nat} {H : List Chunk} : Det (evAt T t d c e sz o H) H := by
  intro k h
  have row : (match T.ti t with
    | some (_, n, _) => match c.range e sz o n with
      | some (ψ, y) => VC ψ ∧ k y H
      | none => False
    | none => False) → ∃ y, k y H ∧ ∀ k' : K, k' y H → (match T.ti t with
    | some (_, n, _) => match c.range e sz o n with
      | some (ψ, y) => VC ψ ∧ k' y H
      | none => False
    | none => False) := by
    intro h
    cases hti : T.ti t with
    | none => rw [hti] at h; exact absurd h id
    | some p =>
      obtain ⟨a, n, b⟩ := p
      simp only [hti] at h
      exact det_opt k h
  cases d
  case ar => exact row h
  case st => exact row h
  all_goals exact det_opt k h
theorem evLoad_det {t : TypeId} {p : AV} {H : List Chunk} : Det (evLoad T t p H) H := by
  intro k h
  unfold evLoad at h ⊢
  cases hd : T.td t with
  | none => rw [hd] at h; exact absurd h id
  | some d =>
    simp only [hd] at h ⊢
    cases p <;> first | exact absurd h id | skip
    case p i e sz o =>
      simp only at h ⊢
      cases hi : nth H i with
      | none => rw [hi] at h; exact absurd h id
      | some c =>
        simp only [hi] at h ⊢
        cases c <;> first | exact absurd h id | exact evAt_det k h
    case q g c e sz o => exact evAt_det k h
theorem evNil_det {x : AV} {H : List Chunk} : Det (evNil x H) H := by
  intro k h
  unfold evNil at h
  split at h
  · exact ⟨_, h, fun k' hk => hk⟩
  · exact ⟨_, h, fun k' hk => hk⟩
  · exact ⟨_, h, fun k' hk => hk⟩
  · exact ⟨_, h, fun k' hk => hk⟩
  · exact absurd h id
theorem evBin_det {g : Bool} {op : BinOp} {t : TypeId} {x y : AV} {H : List Chunk} : Det (evBin T g op t x y H) H := by
  intro k h
  unfold evBin at h
  split at h
  · split at h
    · rename_i heq; exact ⟨_, h, fun k' hk => by simp only [evBin, heq]; exact hk⟩
    · rename_i heq; exact ⟨_, h, fun k' hk => by simp only [evBin, heq]; exact hk⟩
    · exact absurd h id
  · split at h
    · rename_i heq; exact ⟨_, h.2, fun k' hk => by simp only [evBin, heq]; exact ⟨h.1, hk⟩⟩
    · rename_i heq; exact ⟨_, h.2, fun k' hk => by simp only [evBin, heq]; exact ⟨h.1, hk⟩⟩
    · exact absurd h id
  · split at h
    · rename_i heq; exact ⟨_, h.2, fun k' hk => by simp only [evBin, heq]; exact ⟨h.1, hk⟩⟩
    · rename_i heq; exact ⟨_, h.2, fun k' hk => by simp only [evBin, heq]; exact ⟨h.1, hk⟩⟩
    · exact absurd h id
  · split at h
    · rename_i heq
      exact ⟨_, h.2, fun k' hk => by simp only [evBin, heq]; exact ⟨h.1, hk⟩⟩
    · exact absurd h id
  · split at h
    · rename_i heq; exact ⟨_, h, fun k' hk => by simp only [evBin, heq]; exact hk⟩
    · rename_i heq; exact ⟨_, h, fun k' hk => by simp only [evBin, heq]; exact hk⟩
    · exact absurd h id
  · split at h
    · rename_i heq; exact ⟨_, h, fun k' hk => by simp only [evBin, heq]; exact hk⟩
    · rename_i heq; exact ⟨_, h, fun k' hk => by simp only [evBin, heq]; exact hk⟩
    · exact absurd h id
  · split at h
    · rename_i heq; exact ⟨_, h.2, fun k' hk => by simp only [evBin, heq]; exact ⟨h.1, hk⟩⟩
    · rename_i heq; exact ⟨_, h.2, fun k' hk => by simp only [evBin, heq]; exact ⟨h.1, hk⟩⟩
    · exact absurd h id
  · exact absurd h id
theorem evUn_det {g : Bool} {op : UnOp} {x : AV} {H : List Chunk} : Det (evUn g op x H) H := by
  intro k h
  unfold evUn at h
  split at h
  · exact ⟨_, h, fun k' hk => hk⟩
  · cases g
    · exact ⟨_, h.2, fun k' hk => ⟨h.1, hk⟩⟩
    · exact ⟨_, h, fun k' hk => hk⟩
  · exact ⟨_, h, fun k' hk => hk⟩
  · exact absurd h id
theorem evConv_det {g : Bool} {s d : TypeId} {x : AV} {H : List Chunk} : Det (evConv T g s d x H) H := by
  intro k h
  unfold evConv at h
  split at h
  · rename_i h1 h2
    cases g
    · exact ⟨_, h.2, fun k' hk => by simp only [evConv, h1, h2]; exact ⟨h.1, hk⟩⟩
    · exact ⟨_, h, fun k' hk => by simp only [evConv, h1, h2]; exact hk⟩
  · exact absurd h id
theorem evConvX_det {g : Bool} {s d : TypeId} {x : AV} {H : List Chunk} : Det (evConvX T g s d x H) H := by
  intro k h
  unfold evConvX at h ⊢
  split at h
  · unfold evStr at h ⊢
    split at h
    · split at h
      · split at h
        · exact ⟨_, h, fun k' hk => hk⟩
        · split at h
          · exact ⟨_, h.2, fun k' hk => ⟨h.1, hk⟩⟩
          · exact absurd h id
      · exact absurd h id
    · exact absurd h id
  · unfold evBytes at h ⊢
    split at h
    · split at h
      · split at h
        · exact ⟨_, h.2, fun k' hk => ⟨h.1, hk⟩⟩
        · exact absurd h id
      · exact absurd h id
    · exact absurd h id
  · exact evConv_det k h
theorem evIfc_det {t : TypeId} {x : AV} {H : List Chunk} : Det (evIfc T t x H) H := by
  intro k h
  unfold evIfc at h ⊢
  cases hd : T.td t with
  | none => rw [hd] at h; exact absurd h id
  | some d =>
    simp only [hd] at h ⊢
    cases d <;> first | exact absurd h id | exact ⟨_, h, fun k' hk => hk⟩
theorem evField_det {t : TypeId} {x : AV} {f : Nat} {H : List Chunk} : Det (evField T t x f H) H := by
  intro k h
  unfold evField at h
  split at h
  · rename_i h0
    split at h
    · rename_i h1
      split at h
      · rename_i h2
        split at h
        · rename_i h3; exact ⟨_, h, fun k' hk => by simp only [evField, h0, h1, h2, h3]; exact hk⟩
        · exact absurd h id
      · rename_i h2
        split at h
        · rename_i h3; exact ⟨_, h, fun k' hk => by simp only [evField, h0, h1, h2, h3]; exact hk⟩
        · exact absurd h id
      · rename_i d n1 n2 h2
        split at h
        · rename_i h3
          refine ⟨_, h, fun k' hk => ?_⟩
          unfold evField
          simp only [h0, h1, h2, h3]
          cases d
          case st => exact absurd rfl (n1 _)
          case ar => exact absurd rfl (n2 _ _)
          all_goals exact hk
        · exact absurd h id
      · exact absurd h id
    · exact absurd h id
  · exact absurd h id
theorem evFieldAddr_det {t : TypeId} {x : AV} {f : Nat} {H : List Chunk} : Det (evFieldAddr T t x f H) H := by
  intro k h
  unfold evFieldAddr at h
  split at h
  · rename_i h0
    split at h
    · rename_i h1
      split at h
      · rename_i h2
        obtain ⟨hv, h⟩ := h
        split at h
        · exact ⟨_, h, fun k' hk => by simp only [evFieldAddr, h0, h1, h2]; exact ⟨hv, hk⟩⟩
        · exact ⟨_, h, fun k' hk => by simp only [evFieldAddr, h0, h1, h2]; exact ⟨hv, hk⟩⟩
        · exact absurd h id
      · exact absurd h id
    · exact absurd h id
  · exact absurd h id
theorem evIndexAddr_det {t : TypeId} {x i : AV} {H : List Chunk} : Det (evIndexAddr T t x i H) H := by
  intro k h
  unfold evIndexAddr at h
  split at h
  · rename_i h0
    split at h
    · rename_i s b h1
      split at h
      · rename_i c e0 sz n cp
        cases hb : Nat.beq s sz
        · rw [hb] at h; exact absurd h id
        · rw [hb] at h
          exact ⟨_, h.2, fun k' hk => by simp only [evIndexAddr, h0, h1, hb]; exact ⟨h.1, hk⟩⟩
      · rename_i g sz n c
        cases hb : Nat.beq s sz
        · rw [hb] at h; exact absurd h id
        · rw [hb] at h
          exact ⟨_, h.2, fun k' hk => by simp only [evIndexAddr, h0, h1, hb]; exact ⟨h.1, hk⟩⟩
      · exact absurd h id
    · exact absurd h id
  · rename_i h0
    split at h
    · rename_i h1
      split at h
      · exact ⟨_, h.2, fun k' hk => by simp only [evIndexAddr, h0, h1]; exact ⟨h.1, hk⟩⟩
      · exact absurd h id
    · exact absurd h id
  · exact absurd h id
theorem evExtract_det {x : AV} {i : Nat} {H : List Chunk} : Det (evExtract x i H) H := by
  intro k h
  unfold evExtract at h
  split at h
  · split at h
    · rename_i h1; exact ⟨_, h, fun k' hk => by simp only [evExtract, h1]; exact hk⟩
    · exact absurd h id
  · exact absurd h id
theorem evSlice_det {t : TypeId} {x : AV} {lo hi : Option AV} {H : List Chunk} : Det (evSlice T t x lo hi H) H := by
  intro k h
  unfold evSlice at h
  split at h
  · rename_i h0 h1
    split at h
    · split at h
      · rename_i h2
        split at h
        · exact ⟨_, h.2, fun k' hk => by simp only [evSlice, h0, h1, h2]; exact ⟨h.1, hk⟩⟩
        · exact ⟨_, h.2, fun k' hk => by simp only [evSlice, h0, h1, h2]; exact ⟨h.1, hk⟩⟩
        · exact absurd h id
      · exact absurd h id
    · split at h
      · rename_i h2
        split at h
        · split at h
          · rename_i h3; exact ⟨_, h.2, fun k' hk => by simp only [evSlice, h0, h1, h2, h3]; exact ⟨h.1, hk⟩⟩
          · exact absurd h id
        · split at h
          · rename_i h3; exact ⟨_, h.2, fun k' hk => by simp only [evSlice, h0, h1, h2, h3]; exact ⟨h.1, hk⟩⟩
          · exact absurd h id
        · exact absurd h id
      · exact absurd h id
    · exact absurd h id
  · rename_i h0 h1
    split at h
    · split at h
      · rename_i h2
        split at h
        · exact ⟨_, h.2, fun k' hk => by simp only [evSlice, h0, h1, h2]; exact ⟨h.1, hk⟩⟩
        · exact ⟨_, h.2, fun k' hk => by simp only [evSlice, h0, h1, h2]; exact ⟨h.1, hk⟩⟩
        · exact absurd h id
      · exact absurd h id
    · exact absurd h id
  · exact absurd h id
theorem evLen_det {ts : List TypeId} {xs : List AV} {H : List Chunk} : Det (evLen T ts xs H) H := by
  intro k h
  unfold evLen at h
  split at h
  · split at h
    all_goals first
      | exact absurd h id
      | (rename_i h0; exact ⟨_, h, fun k' hk => by simp only [evLen, h0]; exact hk⟩)
  · exact absurd h id
theorem evMM_det {m : Bool} {xs : List AV} {H : List Chunk} : Det (evMM m xs H) H := by
  intro k h
  unfold evMM at h
  split at h
  · exact ⟨_, h, fun k' hk => hk⟩
  · exact absurd h id
theorem evBuild_det {t : TypeId} {E : Env} {ps : List (Nat × Operand)} {H : List Chunk} : Det (evBuild T t E ps H) H := by
  intro k h
  unfold evBuild at h
  split at h
  · rename_i h0 h1
    split at h
    · rename_i h2
      split at h
      · rename_i h3; exact ⟨_, h.2, fun k' hk => by simp only [evBuild, h0, h1, h2, h3]; exact ⟨h.1, hk⟩⟩
      · exact absurd h id
    · exact absurd h id
  · rename_i h0 h1
    split at h
    · rename_i h3; exact ⟨_, h, fun k' hk => by simp only [evBuild, h0, h1, h3]; exact hk⟩
    · exact absurd h id
  · exact absurd h id
theorem evOp_det {g : Bool} {o : Oper} {E : Env} {H : List Chunk} (hl : lightK o.op = true) : Det (evOp T g o E H) H := by
  intro k h
  unfold evOp at h ⊢
  cases ho : o.op <;> rw [ho] at h hl <;> simp only [lightK] at hl <;> simp only at h ⊢ <;> try (cases hl; done)
  case move x => split at h; (rename_i h0; exact ⟨_, h, fun k' hk => hk⟩); exact absurd h id
  case assign x => split at h; (rename_i h0; exact ⟨_, h, fun k' hk => hk⟩); exact absurd h id
  case pick c a b =>
    split at h
    · rename_i b x y h0 h1 h2
      cases b
      · exact ⟨y, h.f rfl, fun k' hk => If_false hk⟩
      · exact ⟨x, h.t rfl, fun k' hk => If_true hk⟩
    · exact absurd h id
  case build t ps => exact evBuild_det k h
  case load t x => split at h; exact evLoad_det k h; exact absurd h id
  case nilCheck x => split at h; exact evNil_det k h; exact absurd h id
  case binOp op t x y t' => split at h; exact evBin_det k h; exact absurd h id
  case unOp op t x => split at h; exact evUn_det k h; exact absurd h id
  case convert s d x =>
    have hb : Nat.beq s d = false := by simpa using hl
    simp only [evConvY, hb, cond_false] at h ⊢
    split at h; exact evConvX_det k h; exact absurd h id
  case makeInterface t x => split at h; exact evIfc_det k h; exact absurd h id
  case slice t x lo hi mx =>
    cases mx with
    | some _ => cases hl
    | none => simp only at h ⊢; split at h; exact evSlice_det k h; exact absurd h id
  case fieldAddr t x f => split at h; exact evFieldAddr_det k h; exact absurd h id
  case field t x f => split at h; exact evField_det k h; exact absurd h id
  case indexAddr t x i => split at h; exact evIndexAddr_det k h; exact absurd h id
  case extract x i => split at h; exact evExtract_det k h; exact absurd h id
  case call c =>
    unfold evCall at h ⊢
    split at h
    · exact absurd h id
    · rename_i avs h0
      split at hl
      · rename_i hc; simp only [hc] at h ⊢; exact evLen_det k h
      · rename_i hc; simp only [hc] at h ⊢; exact evMM_det k h
      · rename_i hc; simp only [hc] at h ⊢; exact evMM_det k h
      · cases hl
end
end Go.Proofs.Ytcfmlnddmpiemaa.Sx


namespace Go.Proofs.Ytcfmlnddmpiemaa.Sx
open Go.RowKit
def memN (x : Nat) : List Nat → Bool
  | [] => false
  | y :: r => cond (Nat.beq x y) true (memN x r)
theorem memN_iff {x : Nat} : ∀ {l : List Nat}, memN x l = true ↔ x ∈ l
  | [] => by simp [memN]
  | y :: r => by
    unfold memN
    cases hb : Nat.beq x y with
    | true => have := Nat.eq_of_beq_eq_true hb; simp [this]
    | false =>
      have : x ≠ y := fun e => by rw [e, Nat.beq_refl] at hb; cases hb
      simp only [cond_false, List.mem_cons, this, false_or]
      exact memN_iff
def edgesOf (o : Oper) : List Nat := (o.after.toList.filter (fun e => Region.binds .any e)).map (·.on)
/-- Which operation writes a slot. -/
def wrG : List Oper → Nat → Nat → Option Nat
  | [], _, _ => none
  | o :: r, i, t => match o.dst with
    | some d => cond (Nat.beq d t) (some i) (wrG r (i + 1) t)
    | none => wrG r (i + 1) t
def wr (all : List Oper) (t : Nat) : Option Nat := wrG all 0 t
theorem wrG_lt : ∀ {l : List Oper} {i t q : Nat}, wrG l i t = some q → q < i + l.length
  | [], _, _, _, h => by cases h
  | o :: r, i, t, q, h => by
    unfold wrG at h
    split at h
    · rename_i d hd
      cases hb : Nat.beq d t
      · rw [hb] at h; have := wrG_lt (l := r) h; simp; omega
      · rw [hb] at h; cases h; simp
    · have := wrG_lt (l := r) h; simp; omega
def gslot (all : List Oper) (o : Oper) : List Nat :=
  match o.guard with
  | none => []
  | some (j, _) => match nth all j with
    | some oj => match oj.dst with
      | some d => [d]
      | none => []
    | none => []
/-- The slots that an operation looks at. -/
def looks (all : List Oper) (o : Oper) : List Nat := gslot all o ++ temps o
def allI (p : Oper → Nat → Bool) : List Oper → Nat → Bool
  | [], _ => true
  | o :: r, i => p o i && allI p r (i + 1)
theorem allI_get {p : Oper → Nat → Bool} : ∀ {l : List Oper} {k i : Nat} {o : Oper}, allI p l k = true → nth l i = some o → p o (k + i) = true
  | [], _, _, _, _, h => by cases h
  | o :: r, k, 0, _, h, e => by
    simp only [nth, Option.some.injEq] at e
    subst e
    unfold allI at h
    rw [Bool.and_eq_true] at h
    exact h.1
  | o :: r, k, i + 1, _, h, e => by
    unfold allI at h
    rw [Bool.and_eq_true] at h
    have := allI_get (l := r) h.2 (i := i) (by simpa [nth] using e)
    rwa [show k + (i + 1) = k + 1 + i by omega]
def dstP (all : List Oper) (o : Oper) (i : Nat) : Bool :=
  match o.dst with
  | none => true
  | some d => match wr all d with
    | some q => Nat.beq q i
    | none => false
def an (A : List (List Nat)) (i : Nat) : List Nat :=
  match nth A i with
  | some l => l
  | none => []
def ins (x : Nat) (l : List Nat) : List Nat := cond (memN x l) l (x :: l)
def uni : List Nat → List Nat → List Nat
  | [], l => l
  | x :: r, l => uni r (ins x l)
def ancStep (A : List (List Nat)) : List Nat → List Nat → List Nat
  | [], s => s
  | e :: r, s => ancStep A r (ins e (uni (an A e) s))
def mkAnc : List Oper → List (List Nat) → List (List Nat)
  | [], A => A
  | o :: r, A => mkAnc r (A ++ [ancStep A (edgesOf o) []])
def ancP (A : List (List Nat)) (o : Oper) (i : Nat) : Bool :=
  (an A i).all (fun x => memN x (edgesOf o) || (edgesOf o).any (fun e => memN x (an A e))) && (edgesOf o).all (fun e => Nat.blt e i)
def lookP (A : List (List Nat)) (all : List Oper) (i t : Nat) : Bool :=
  match wr all t with
  | none => true
  | some q => memN q (an A i) || memN i (an A q)
def reChk (A : List (List Nat)) (all : List Oper) (D : List Nat) (j : Nat) : Bool :=
  match nth all j with
  | none => false
  | some o => lightK o.op && (looks all o).all (fun t => match wr all t with
    | none => true
    | some q => memN q (an A j) || (memN j (an A q) && !memN q D))
def nilL : List Nat → Bool
  | [] => true
  | _ => false
/-- How a region is gone through: one operation behind the other, and choices of the next heavy one. -/
inductive PT where
  | nil
  | st (i : Nat) (re : List Nat) (r : PT)
  | ch (c : PT)
  | hv (i : Nat) (re : List Nat) (r : PT) (alt : PT)
def PT.L (l : List (Nat × List Nat)) : PT := l.foldr (fun p r => .st p.1 p.2 r) .nil
def PT.heads : PT → List Nat
  | .hv i _ _ alt => i :: alt.heads
  | _ => []
def heavyB (all : List Oper) (i : Nat) : Bool := match nth all i with
  | none => false
  | some o => !lightK o.op
def stepB (A : List (List Nat)) (all : List Oper) (D : List Nat) (i : Nat) (re : List Nat) : Bool :=
  !memN i D && (match nth all i with
    | none => false
    | some o => (an A i).all (fun q => memN q D) && (looks all o).all (lookP A all i) &&
      (cond (lightK o.op) (nilL re) (D.all (fun j => memN j (an A i) || memN j re || heavyB all j) && re.all (reChk A all (i :: D)))))
/-- Whatever else is left waits for one that is left. -/
def soleB (A : List (List Nat)) (all : List Oper) (D l : List Nat) : Bool := allI (fun _ j => memN j D || memN j l || (an A j).any (fun q => !memN q D)) all 0
def chkT (A : List (List Nat)) (all : List Oper) : PT → Bool → List Nat → Bool
  | .nil, m, D => cond m true (allI (fun _ i => memN i D) all 0)
  | .st i re r, m, D => cond m false (stepB A all D i re && (cond (heavyB all i) (soleB A all D [i]) true && chkT A all r false (i :: D)))
  | .ch c, m, D => cond m false (!nilL c.heads && (soleB A all D c.heads && chkT A all c true D))
  | .hv i re r alt, m, D => cond m (stepB A all D i re && (heavyB all i && (chkT A all r false (i :: D) && chkT A all alt true D))) false
def drawChk (all : List Oper) (π : PT) : Bool :=
  allI (dstP all) all 0 && (allI (ancP (mkAnc all []) ) all 0 && chkT (mkAnc all []) all π false [])
structure Same (E : Env) (H : List Chunk) (d : Option Nat) (v : AV) (H' : List Chunk) : Prop where
  h : H' = H
  v : match d with
    | none => True
    | some t => lk E t = some v
def gval (all : List Oper) (j : Nat) (E : Env) : Option (Option Bool) :=
  match nth all j with
  | some o => match o.dst with
    | some d => match lk E d with
      | some (.v (.bool b)) => some (some b)
      | some (.v (.tuple _)) => some none
      | _ => none
    | none => none
  | none => none
def gset (all : List Oper) (j : Nat) (b : Bool) (E : Env) : Env :=
  match nth all j with
  | some o => match o.dst with
    | some d => (d, .v (.bool b)) :: E
    | none => E
  | none => E
def wantE (all : List Oper) (o : Oper) (E : Env) : Option Bool :=
  match o.guard with
  | none => some true
  | some (j, want) => match gval all j E with
    | some (some b) => some (b == want)
    | some none => some false
    | none => none
section
variable {P : Program} (T : Tab P)
def reP (g : List Nat) (all : List Oper) (E : Env) (H : List Chunk) (l : List Nat) : Prop → Prop :=
  List.rec (motive := fun _ => Prop → Prop) (fun X => X) (fun j _ ih X => (match nth all j with
    | some o => match o.guard with
      | none => evOp T (memb o.dst g) o E H (Same E H o.dst)
      | some (jj, want) => match gval all jj E with
        | some (some b) => IfW want b (evOp T (memb o.dst g) o E H (Same E H o.dst)) (Same E H o.dst (.v undef) H)
        | some none => Same E H o.dst (.v undef) H
        | none => False
    | none => False) ∧ ih X) l
def pStep (n : Nat) (g : List Nat) (all : List Oper) (i : Nat) (re : List Nat) (X : Env → List Chunk → Prop) : Env → List Chunk → Prop := fun E H => match nth all i with
    | none => False
    | some o => match o.guard with
      | none => evOp T (memb o.dst g) o E H (comp (fun v H' => putE n o.dst v E (fun E' => reP T g all E' H' re (X E' H'))))
      | some (j, want) => match gval all j E with
        | some (some b) => IfW want b
            (evOp T (memb o.dst g) o (gset all j want E) H (comp (fun v H' => putE n o.dst v (gset all j want E) (fun E' => reP T g all E' H' re (X E' H')))))
            (putE n o.dst (.v undef) (gset all j (!want) E) (fun E' => X E' H))
        | some none => putE n o.dst (.v undef) E (fun E' => X E' H)
        | none => False
def evPi (n : Nat) (g : List Nat) (all : List Oper) (π : PT) : Bool → Env → List Chunk → (Env → List Chunk → Prop) → Prop :=
  PT.rec (motive := fun _ => Bool → Env → List Chunk → (Env → List Chunk → Prop) → Prop)
    (fun m E H k => cond m True (k E H))
    (fun i re _ ih _ E H k => pStep T n g all i re (fun E' H' => ih false E' H' k) E H)
    (fun _ ih _ E H k => ih true E H k)
    (fun i re _ _ ih ia _ E H k => pStep T n g all i re (fun E' H' => ih false E' H' k) E H ∧ ia true E H k) π
theorem evPi_st {n : Nat} {g : List Nat} {all : List Oper} {i : Nat} {re : List Nat} {r : PT} {m : Bool} {E : Env} {H : List Chunk} {k : Env → List Chunk → Prop} : evPi T n g all (.st i re r) m E H k = pStep T n g all i re (fun E' H' => evPi T n g all r false E' H' k) E H := rfl
theorem evPi_ch {n : Nat} {g : List Nat} {all : List Oper} {c : PT} {m : Bool} {E : Env} {H : List Chunk} {k : Env → List Chunk → Prop} : evPi T n g all (.ch c) m E H k = evPi T n g all c true E H k := rfl
theorem evPi_hv {n : Nat} {g : List Nat} {all : List Oper} {i : Nat} {re : List Nat} {r alt : PT} {m : Bool} {E : Env} {H : List Chunk} {k : Env → List Chunk → Prop} : evPi T n g all (.hv i re r alt) m E H k = (pStep T n g all i re (fun E' H' => evPi T n g all r false E' H' k) E H ∧ evPi T n g all alt true E H k) := rfl
end
/-- A drawn region, with a plan that fits it. -/
structure DrawP (c : Bool) (X : Prop) : Prop where
  c : c = true
  x : X
def restr (E : Env) : List Nat → Env
  | [] => []
  | t :: r => match lk E t with
    | some v => (t, v) :: restr E r
    | none => restr E r
theorem restr_mem {E : Env} : ∀ {l : List Nat} {t : Nat}, t ∈ l → lk (restr E l) t = lk E t
  | [], _, h => by cases h
  | s :: r, t, h => by
    by_cases hts : t = s
    · subst hts
      unfold restr
      cases hv : lk E t with
      | some v => simp [lk]
      | none =>
        simp only
        by_cases hr : t ∈ r
        · rw [restr_mem hr, hv]
        · clear h
          induction r with
          | nil => rfl
          | cons y r ih =>
            simp at hr
            unfold restr
            cases hy : lk E y with
            | none => exact ih hr.2
            | some z =>
              simp only [lk]
              have : Nat.beq t y = false := by
                cases hb : Nat.beq t y
                · rfl
                · exact absurd (Nat.eq_of_beq_eq_true hb) hr.1
              rw [this]; exact ih hr.2
    · have hr : t ∈ r := by simpa [hts] using h
      unfold restr
      cases hv : lk E s with
      | none => exact restr_mem hr
      | some v =>
        simp only [lk]
        have : Nat.beq t s = false := by
          cases hb : Nat.beq t s
          · rfl
          · exact absurd (Nat.eq_of_beq_eq_true hb) hts
        rw [this]; exact restr_mem hr
theorem restr_some {E : Env} : ∀ {l : List Nat} {t : Nat} {v : AV}, lk (restr E l) t = some v → t ∈ l ∧ lk E t = some v
  | [], _, _, h => by cases h
  | s :: r, t, v, h => by
    unfold restr at h
    cases hv : lk E s with
    | none => rw [hv] at h; have := restr_some (l := r) h; exact ⟨by simp [this.1], this.2⟩
    | some u =>
      rw [hv] at h
      simp only [lk] at h
      cases hb : Nat.beq t s with
      | true =>
        have hts := Nat.eq_of_beq_eq_true hb
        subst hts
        rw [hb] at h
        simp only [cond_true, Option.some.injEq] at h
        subst h
        exact ⟨by simp, hv⟩
      | false => rw [hb] at h; have := restr_some (l := r) h; exact ⟨by simp [this.1], this.2⟩
end Go.Proofs.Ytcfmlnddmpiemaa.Sx


namespace Go.Proofs.Ytcfmlnddmpiemaa.Sx
open Go.RowKit
theorem putE_env {n : Nat} {d : Option Nat} {v : AV} {E : Env} {k : Env → Prop} (h : putE n d v E k) : ∃ E', k E' ∧ (∀ t, d ≠ some t → lk E' t = lk E t) ∧ (∀ t, d = some t → t < n ∧ lk E' t = some v) := by
  unfold putE at h
  cases d with
  | none => exact ⟨E, h, fun _ _ => rfl, fun t e => nomatch e⟩
  | some t =>
    simp only at h
    cases hb : Nat.blt t n with
    | false => rw [hb] at h; exact absurd h id
    | true =>
      rw [hb] at h
      refine ⟨_, h, fun s hs => ?_, fun s hs => ?_⟩
      · have : Nat.beq s t = false := by
          cases h2 : Nat.beq s t
          · rfl
          · exact absurd (by rw [Nat.eq_of_beq_eq_true h2]) hs
        simp [lk, this]
      · cases hs
        exact ⟨blt_lt hb, by simp [lk, Nat.beq_refl]⟩
theorem wrG_ge : ∀ {l : List Oper} {k t q : Nat}, wrG l k t = some q → k ≤ q
  | [], _, _, _, h => by cases h
  | z :: l, k, t, q, h => by
    unfold wrG at h
    split at h
    · rename_i d _
      cases hb : Nat.beq d t
      · rw [hb] at h; have := wrG_ge (l := l) h; omega
      · rw [hb] at h; cases h; omega
    · have := wrG_ge (l := l) h; omega
theorem wrG_get : ∀ {l : List Oper} {k q t : Nat}, wrG l k t = some (k + q) → ∃ o', nth l q = some o' ∧ o'.dst = some t
  | [], _, _, _, h => by cases h
  | o' :: r, k, q, t, h => by
    have rest : wrG r (k + 1) t = some (k + q) → ∃ o'', nth (o' :: r) q = some o'' ∧ o''.dst = some t := fun h => by
      cases q with
      | zero => have := wrG_ge h; omega
      | succ q => exact wrG_get (l := r) (k := k + 1) (by rw [h]; congr 1; omega)
    unfold wrG at h
    split at h
    · rename_i d hd'
      cases hb : Nat.beq d t
      · rw [hb] at h; exact rest h
      · rw [hb] at h
        simp only [cond_true, Option.some.injEq] at h
        have : q = 0 := by omega
        subst this
        exact ⟨o', rfl, by rw [hd', Nat.eq_of_beq_eq_true hb]⟩
    · exact rest h
theorem wr_get {all : List Oper} {t q : Nat} (h : wr all t = some q) : ∃ o, nth all q = some o ∧ o.dst = some t :=
  wrG_get (k := 0) (by rw [Nat.zero_add]; exact h)
section
variable {P : Program} {T : Tab P} {w0 : World} {M : Nat → Prop} {J0 : B0} {n : Nat} {g : List Nat} {A : List (List Nat)} {ops : Array Oper} {E0 : Env}
theorem gval_set {j : Nat} {b : Bool} {E : Env} {all : List Oper} (h : gval all j E = some (some b)) : ∀ t, lk (gset all j b E) t = lk E t := by
  unfold gval at h
  unfold gset
  intro t
  cases ho : nth all j with
  | none => simp [ho] at h
  | some o =>
    rw [ho] at h
    simp only at h ⊢
    cases hd : o.dst with
    | none => simp [hd] at h
    | some d =>
      rw [hd] at h
      simp only at h ⊢
      split at h
      · rename_i b' hl
        cases h
        simp only [lk]
        cases hb : Nat.beq t d with
        | false => rfl
        | true => rw [Nat.eq_of_beq_eq_true hb, hl]; rfl
      · cases h
      · cases h
theorem gval_congr {j : Nat} {E F : Env} {all : List Oper} (h : ∀ o d, nth all j = some o → o.dst = some d → lk F d = lk E d) : gval all j F = gval all j E := by
  unfold gval
  cases ho : nth all j with
  | none => rfl
  | some o =>
    simp only
    cases hd : o.dst with
    | none => rfl
    | some d => simp only; rw [h o d ho hd]
theorem wantE_congr {o : Oper} {E F : Env} {all : List Oper} (h : ∀ t ∈ looks all o, lk F t = lk E t) : wantE all o F = wantE all o E := by
  unfold wantE
  cases hg : o.guard with
  | none => rfl
  | some jw =>
    obtain ⟨j, want⟩ := jw
    simp only
    rw [gval_congr (fun oj d h1 h2 => h d (by simp [looks, gslot, hg, h1, h2]))]
theorem gval_yield {ρ : Nat → Option Nat} {J : Bool → Nat → Prop} {w : World} {E : Env} {a : Act} (h : EnvOk n ρ J w E a) {j : Nat} :
    (∀ b, gval ops.toList j E = some (some b) → yielded ops a.tmps j = some b) ∧ (gval ops.toList j E = some none → yielded ops a.tmps j = none) := by
  unfold gval
  cases hj : nth ops.toList j with
  | none => constructor <;> intros <;> contradiction
  | some o =>
    rw [nth_eq, Array.getElem?_toList] at hj
    simp only
    cases hd : o.dst with
    | none => constructor <;> intros <;> contradiction
    | some d =>
      simp only
      have key : ∀ v, lk E d = some (.v v) → yielded ops a.tmps j = match v with | .bool b => some b | _ => none := fun v hv => by
        obtain ⟨u, h1, h2⟩ := h.get d _ hv
        cases h2
        simp only [yielded, hj, hd, Option.bind_some]
        rw [h1]
        cases v <;> rfl
      constructor
      · intro b hb
        split at hb
        · rename_i b' hl; cases hb; exact key _ hl
        · cases hb
        · cases hb
      · intro hb
        split at hb
        · cases hb
        · rename_i vs hl; exact key _ hl
        · cases hb
theorem wantE_wanted {ρ : Nat → Option Nat} {J : Bool → Nat → Prop} {w : World} {E : Env} {a : Act} (h : EnvOk n ρ J w E a) {o : Oper} {b : Bool} (hw : wantE ops.toList o E = some b) : Region.wanted o (yielded ops a.tmps) = b := by
  unfold wantE at hw
  cases hg : o.guard with
  | none => rw [hg] at hw; cases hw; simp [Region.wanted, hg]
  | some jw =>
    obtain ⟨j, want⟩ := jw
    rw [hg] at hw
    simp only at hw
    obtain ⟨y1, y2⟩ := gval_yield h (ops := ops) (j := j)
    split at hw
    · rename_i b' hv
      cases hw
      simp only [Region.wanted, hg, y1 _ hv]
      cases b' <;> cases want <;> rfl
    · rename_i hv
      cases hw
      simp only [Region.wanted, hg, y2 hv]
      rfl
    · cases hw

/-- What is known of a light operation that has been looked at. -/
def Fact (T : Tab P) (g : List Nat) (A : List (List Nat)) (all : List Oper) (E0 E : Env) (H : List Chunk) (i : Nat) : Prop :=
  ∃ o Ei y, nth all i = some o ∧
    (∀ t ∈ looks all o, (lk Ei t = lk E t ∧ ∀ q, wr all t = some q → q ∈ an A i) ∨ (∃ q, wr all t = some q ∧ i ∈ an A q ∧ lk Ei t = lk E0 t)) ∧
    ((wantE all o Ei = some true ∧ ∀ k : K, k y H → evOp T (memb o.dst g) o Ei H k) ∨ (wantE all o Ei = some false ∧ y = .v undef)) ∧
    (∀ d, o.dst = some d → d < n ∧ lk E d = some y)
structure DI (n : Nat) (T : Tab P) (g : List Nat) (A : List (List Nat)) (all : List Oper) (E0 : Env) (D : List Nat) (S : Array Bool) (E : Env) (H : List Chunk) : Prop where
  size : S.size = all.length
  anc : ∀ i ∈ D, ∀ q ∈ an A i, q ∈ D
  cl : ∀ i, S.getD i false = true → ∀ q ∈ an A i, S.getD q false = true
  sub : ∀ i, S.getD i false = true → i ∈ D
  hvy : ∀ i ∈ D, heavyB all i = true → S.getD i false = true
  base : ∀ t, (∀ q, wr all t = some q → q ∉ D) → lk E t = lk E0 t
  facts : ∀ i ∈ D, S.getD i false = false → Fact (n := n) T g A all E0 E H i
structure SI (n : Nat) (all : List Oper) (E0 : Env) (S : Array Bool) (E : Env) (ρ : Nat → Option Nat) (J : Bool → Nat → Prop) (w : World) (a : Act) : Prop where
  size : a.tmps.size = n
  defers : a.defers = []
  s1 : ∀ t q v, wr all t = some q → S.getD q false = true → lk E t = some v → ∃ u, a.tmps[t]? = some u ∧ Rep ρ J w v u
  s2 : ∀ t v, (∀ q, wr all t = some q → S.getD q false = false) → lk E0 t = some v → ∃ u, a.tmps[t]? = some u ∧ Rep ρ J w v u
theorem SI.mono {S : Array Bool} {E : Env} {ρ ρ' : Nat → Option Nat} {J J' : Bool → Nat → Prop} {w w' : World} {a : Act} {all : List Oper} (h : SI n all E0 S E ρ J w a) (hg : Grow ρ ρ' J J' w w') : SI n all E0 S E ρ' J' w' a :=
  ⟨h.size, h.defers, fun t q v h1 h2 h3 => by obtain ⟨u, e1, e2⟩ := h.s1 t q v h1 h2 h3; exact ⟨u, e1, e2.mono hg⟩,
    fun t v h1 h2 => by obtain ⟨u, e1, e2⟩ := h.s2 t v h1 h2; exact ⟨u, e1, e2.mono hg⟩⟩
theorem getD_set {S : Array Bool} {i j : Nat} (hi : i < S.size) : (S.setIfInBounds i true).getD j false = true ↔ (S.getD j false = true ∨ j = i) := by
  by_cases h : i = j
  · subst h; simp [hi]
  · rw [getD_set_ne false h]
    constructor
    · exact .inl
    · rintro (h1 | h1)
      · exact h1
      · exact absurd h1.symm h
theorem getD_set' {S : Array Bool} {i j : Nat} (hi : i < S.size) : (S.setIfInBounds i true).getD j false = false ↔ (S.getD j false = false ∧ j ≠ i) := by
  rw [← Bool.not_eq_true, getD_set hi, not_or, Bool.not_eq_true]
/-- A value into the slot of a listed operation. -/
theorem SI.put (hU : allI (dstP ops.toList) ops.toList 0 = true) {S : Array Bool} {E : Env} {ρ : Nat → Option Nat} {J : Bool → Nat → Prop} {w : World} {a : Act} {i : Nat} {o : Oper} (ho : nth ops.toList i = some o)
    (h : SI n ops.toList E0 S E ρ J w a) (hi : i < S.size) (hS : S.getD i false = false) {u : Value} {v : AV} (hr : Rep ρ J w v u) (hd : ∀ d, o.dst = some d → d < n ∧ lk E d = some v) :
    SI n ops.toList E0 (S.setIfInBounds i true) E ρ J w (a.put o.dst u) := by
  have hw : ∀ d, o.dst = some d → wr ops.toList d = some i := fun d e => by
    have := allI_get hU ho
    unfold dstP at this
    rw [e] at this
    simp only at this
    split at this
    · rename_i q hq; rw [hq, Nat.eq_of_beq_eq_true this, Nat.zero_add]
    · cases this
  cases ed : o.dst with
  | none =>
    refine ⟨h.size, h.defers, fun t q x h1 h2 h3 => ?_, fun t x h1 h2 => ?_⟩
    · rw [getD_set hi] at h2
      rcases h2 with h2 | h2
      · exact h.s1 t q x h1 h2 h3
      · subst h2
        obtain ⟨o', e1, e2⟩ := wr_get h1
        rw [ho] at e1
        cases e1
        rw [ed] at e2
        cases e2
    · exact h.s2 t x (fun q hq => ((getD_set' hi).1 (h1 q hq)).1) h2
  | some d =>
    obtain ⟨hdn, hlk⟩ := hd d ed
    have hne : ∀ t, t ≠ d → (a.put (some d) u).tmps[t]? = a.tmps[t]? := fun t ht => by simp [Act.put, Array.getElem?_setIfInBounds_ne (Ne.symm ht)]
    have heq : (a.put (some d) u).tmps[d]? = some u := by simp [Act.put, h.size, hdn]
    refine ⟨by simpa [Act.put] using h.size, h.defers, fun t q x h1 h2 h3 => ?_, fun t x h1 h2 => ?_⟩
    · by_cases ht : t = d
      · subst ht
        rw [hlk] at h3
        cases h3
        exact ⟨u, heq, hr⟩
      · rw [hne t ht]
        rw [getD_set hi] at h2
        rcases h2 with h2 | h2
        · exact h.s1 t q x h1 h2 h3
        · subst h2
          exfalso
          obtain ⟨o', e1, e2⟩ := wr_get h1
          rw [ho] at e1
          cases e1
          rw [ed] at e2
          cases e2
          exact ht rfl
    · have ht : t ≠ d := fun e => by
        subst e
        have := ((getD_set' hi).1 (h1 i (hw t ed))).2
        exact this rfl
      rw [hne t ht]
      exact h.s2 t x (fun q hq => ((getD_set' hi).1 (h1 q hq)).1) h2
end
end Go.Proofs.Ytcfmlnddmpiemaa.Sx


namespace Go.Proofs.Ytcfmlnddmpiemaa.Sx
open Go.RowKit
section
variable {P : Program} {T : Tab P} {w0 : World} {M : Nat → Prop} {J0 : B0} {n : Nat} {g : List Nat} {A : List (List Nat)} {ops : Array Oper} {E0 : Env}
theorem wr_of (hU : allI (dstP ops.toList) ops.toList 0 = true) {i d : Nat} {o : Oper} (ho : nth ops.toList i = some o) (e : o.dst = some d) : wr ops.toList d = some i := by
  have := allI_get hU ho
  unfold dstP at this
  rw [e] at this
  simp only at this
  split at this
  · rename_i q hq; rw [hq, Nat.eq_of_beq_eq_true this, Nat.zero_add]
  · cases this
theorem anc_of (hA : allI (ancP A) ops.toList 0 = true) {i : Nat} {o : Oper} (ho : nth ops.toList i = some o) : (∀ x ∈ an A i, x ∈ edgesOf o ∨ ∃ e ∈ edgesOf o, x ∈ an A e) ∧ ∀ e ∈ edgesOf o, e < i := by
  have := allI_get hA ho
  rw [Nat.zero_add] at this
  unfold ancP at this
  rw [Bool.and_eq_true, List.all_eq_true, List.all_eq_true] at this
  refine ⟨fun x hx => ?_, fun e he => blt_lt (this.2 e he)⟩
  have := this.1 x hx
  rw [Bool.or_eq_true, memN_iff, List.any_eq_true] at this
  rcases this with h | ⟨e, he, h⟩
  · exact .inl h
  · exact .inr ⟨e, he, memN_iff.1 h⟩
/-- What is ready: its edges are listed. -/
theorem ready_of {S : Array Bool} {i : Nat} (h : i ∈ Region.ready .any ops S) : S.getD i false = false ∧ i < S.size ∧ ∃ o, nth ops.toList i = some o ∧ ∀ e ∈ edgesOf o, S.getD e false = true := by
  obtain ⟨h0, o, ho, hall⟩ := mem_ready.1 h
  have hlt : i < S.size := by
    rcases Nat.lt_or_ge i S.size with h' | h'
    · exact h'
    · simp [h'] at h0
  refine ⟨by simpa [hlt] using h0, hlt, o, by rw [nth_eq, Array.getElem?_toList]; exact ho, fun e he => ?_⟩
  unfold edgesOf at he
  rw [List.mem_map] at he
  obtain ⟨x, hx, rfl⟩ := he
  rw [List.mem_filter] at hx
  exact hall x (by simpa using hx.1) hx.2
theorem ready_anc (hA : allI (ancP A) ops.toList 0 = true) {S : Array Bool} (hcl : ∀ i, S.getD i false = true → ∀ q ∈ an A i, S.getD q false = true) {i : Nat} (h : i ∈ Region.ready .any ops S) : ∀ q ∈ an A i, S.getD q false = true := by
  obtain ⟨_, _, o, ho, he⟩ := ready_of h
  intro q hq
  rcases (anc_of hA ho).1 q hq with h1 | ⟨e, h1, h2⟩
  · exact he q h1
  · exact hcl e (he e h1) q h2
theorem ready_nil (hA : allI (ancP A) ops.toList 0 = true) {S : Array Bool} (hs : S.size = ops.toList.length) (h : Region.ready .any ops S = []) : ∀ i, i < ops.toList.length → S.getD i false = true := by
  intro i
  induction i using Nat.strongRecOn with
  | ind i ih =>
    intro hi
    cases hS : S.getD i false with
    | true => rfl
    | false =>
      exfalso
      have hlt : i < S.size := by omega
      obtain ⟨o, ho⟩ : ∃ o, nth ops.toList i = some o := by rw [nth_eq]; exact ⟨_, List.getElem?_eq_getElem hi⟩
      have hm : i ∈ Region.ready .any ops S := by
        rw [mem_ready]
        refine ⟨by simpa [hlt] using hS, o, by rw [nth_eq, Array.getElem?_toList] at ho; exact ho, fun e he hb => ?_⟩
        have hin : e.on ∈ edgesOf o := List.mem_map.2 ⟨e, List.mem_filter.2 ⟨by simpa using he, hb⟩, rfl⟩
        have := (anc_of hA ho).2 _ hin
        exact ih e.on this (by omega)
      rw [h] at hm
      cases hm
/-- A processed light operation is done. -/
theorem fact_step (hA : allI (ancP A) ops.toList 0 = true) (hU : allI (dstP ops.toList) ops.toList 0 = true) {Q : Exit → Act → World → Prop} {K : Act → World → Prop} {D : List Nat} {S : Array Bool} {E : Env} {H : List Chunk} {J : Bool → Nat → Prop} {ρ : Nat → Option Nat} {φ : Nat → Nat → Prop} {a : Act} {w : World} {i : Nat}
    (hd : DI n T g A ops.toList E0 D S E H) (hs : SI n ops.toList E0 S E ρ J w a) (hw : Sat w0 M J0 J ρ φ H w) (hi : i ∈ Region.ready .any ops S) (hf : Fact (n := n) T g A ops.toList E0 E H i)
    (hK : ∀ a' w' J' ρ' φ', Sat w0 M J0 J' ρ' φ' H w' → SI n ops.toList E0 (S.setIfInBounds i true) E ρ' J' w' a' → K a' w') : wpOp P ops Q i K a w := by
  obtain ⟨hSi, hlt, _⟩ := ready_of hi
  obtain ⟨o, Ei, y, ho, hl, hy, hdst⟩ := hf
  have hanc := ready_anc hA hd.cl hi
  have slot : ∀ t ∈ looks ops.toList o, ∀ v, lk Ei t = some v → ∃ u, a.tmps[t]? = some u ∧ Rep ρ J w v u := by
    intro t ht v hv
    rcases hl t ht with ⟨h1, h2⟩ | ⟨q, h1, h2, h3⟩
    · rw [h1] at hv
      cases hq : wr ops.toList t with
      | none => exact hs.s2 t v (fun q e => by rw [hq] at e; cases e) (by rw [← hd.base t (fun q e => by rw [hq] at e; cases e)]; exact hv)
      | some q => exact hs.s1 t q v hq (hanc q (h2 q hq)) hv
    · rw [h3] at hv
      refine hs.s2 t v (fun q' e => ?_) hv
      rw [h1] at e
      cases e
      cases hq : S.getD q false with
      | false => rfl
      | true => rw [hd.cl q hq i h2] at hSi; cases hSi
  have he : EnvOk n ρ J w (restr Ei (looks ops.toList o)) a := ⟨hs.size, fun t v e => by obtain ⟨h1, h2⟩ := restr_some e; exact slot t h1 v h2, hs.defers⟩
  have hwr : wantE ops.toList o (restr Ei (looks ops.toList o)) = wantE ops.toList o Ei := wantE_congr (fun t ht => restr_mem ht)
  have ho' : ops[i]? = some o := by rw [nth_eq, Array.getElem?_toList] at ho; exact ho
  unfold wpOp
  rw [ho']
  simp only
  rcases hy with ⟨hy1, hy2⟩ | ⟨hy1, hy2⟩
  · rw [← hwr] at hy1
    rw [if_pos (wantE_wanted he hy1)]
    refine .inl (evOp_ok (k := fun v H' => v = y ∧ H' = H) (T := T) (g := memb o.dst g) hw he (evOp_congr (fun t ht => restr_mem (List.mem_append.2 (.inr ht))) (hy2 _ ⟨rfl, rfl⟩)) ?_)
    rintro u v H' ρ' φ' J' w' ⟨rfl, rfl⟩ hs' hg hr
    exact hK _ _ _ _ _ hs' ((hs.mono hg).put hU ho hlt hSi hr hdst)
  · rw [← hwr] at hy1
    rw [if_neg (by rw [wantE_wanted he hy1]; exact Bool.false_ne_true)]
    subst hy2
    exact hK _ _ _ _ _ hw (hs.put hU ho hlt hSi (.v _) hdst)
/-- What is known of one stays known when another is looked at. -/
theorem Fact.next (hU : allI (dstP ops.toList) ops.toList 0 = true) {E E' : Env} {H : List Chunk} {i p : Nat} {op : Oper} (h : Fact (n := n) T g A ops.toList E0 E H i) (ho : nth ops.toList p = some op) (hpi : i ≠ p) (hp : p ∉ an A i)
    (hE : ∀ t, op.dst ≠ some t → lk E' t = lk E t) : Fact (n := n) T g A ops.toList E0 E' H i := by
  obtain ⟨o, Ei, y, h1, h2, h3, h4⟩ := h
  refine ⟨o, Ei, y, h1, fun t ht => ?_, h3, fun d hd => ?_⟩
  · rcases h2 t ht with ⟨e1, e2⟩ | h2
    · refine .inl ⟨?_, e2⟩
      rw [hE t (fun e => hp (e2 p (wr_of hU ho e)))]
      exact e1
    · exact .inr h2
  · obtain ⟨e1, e2⟩ := h4 d hd
    refine ⟨e1, ?_⟩
    rw [hE d (fun e => hpi (Option.some.inj ((wr_of hU h1 hd).symm.trans (wr_of hU ho e))))]
    exact e2
theorem DI.next (hU : allI (dstP ops.toList) ops.toList 0 = true) {D : List Nat} {S : Array Bool} {E E' : Env} {H : List Chunk} {i : Nat} {o : Oper} (hd : DI n T g A ops.toList E0 D S E H) (hi : i ∉ D) (ho : nth ops.toList i = some o)
    (hlt : heavyB ops.toList i = false) (ha : ∀ q ∈ an A i, q ∈ D) (hE : ∀ t, o.dst ≠ some t → lk E' t = lk E t) (hf : Fact (n := n) T g A ops.toList E0 E' H i) : DI n T g A ops.toList E0 (i :: D) S E' H := by
  refine ⟨hd.size, ?_, hd.cl, fun j hj => .tail _ (hd.sub j hj), fun j hj hh => ?_, ?_, ?_⟩
  rotate_left
  · rcases List.mem_cons.1 hj with rfl | hj
    · rw [hlt] at hh; cases hh
    · exact hd.hvy j hj hh
  rotate_right
  · intro j hj q hq
    rcases List.mem_cons.1 hj with rfl | hj
    · exact .tail _ (ha q hq)
    · exact .tail _ (hd.anc j hj q hq)
  · intro t ht
    rw [hE t (fun e => ht i (wr_of hU ho e) (by simp))]
    exact hd.base t (fun q hq hqD => ht q hq (.tail _ hqD))
  · intro j hj hS
    rcases List.mem_cons.1 hj with rfl | hj
    · exact hf
    · exact (hd.facts j hj hS).next hU ho (fun e => hi (e ▸ hj)) (fun e => hi (hd.anc j hj i e)) hE
theorem SI.next (hU : allI (dstP ops.toList) ops.toList 0 = true) {S : Array Bool} {E E' : Env} {ρ : Nat → Option Nat} {J : Bool → Nat → Prop} {w : World} {a : Act} {i : Nat} {o : Oper} (hs : SI n ops.toList E0 S E ρ J w a) (hi : S.getD i false = false) (ho : nth ops.toList i = some o)
    (hE : ∀ t, o.dst ≠ some t → lk E' t = lk E t) : SI n ops.toList E0 S E' ρ J w a := by
  refine ⟨hs.size, hs.defers, fun t q v h1 h2 h3 => hs.s1 t q v h1 h2 ?_, hs.s2⟩
  rw [hE t (fun e => ?_)] at h3
  · exact h3
  · rw [wr_of hU ho e] at h1; cases h1; rw [hi] at h2; cases h2
end
end Go.Proofs.Ytcfmlnddmpiemaa.Sx


namespace Go.Proofs.Ytcfmlnddmpiemaa.Sx
open Go.RowKit
section
variable {P : Program} {T : Tab P} {w0 : World} {M : Nat → Prop} {J0 : B0} {n : Nat} {g : List Nat} {A : List (List Nat)} {ops : Array Oper} {E0 : Env}
/-- What is known of one, by the environment itself. -/
def Now (T : Tab P) (g : List Nat) (all : List Oper) (E : Env) (H : List Chunk) (o : Oper) : Prop :=
  ∃ y, ((wantE all o E = some true ∧ ∀ k : K, k y H → evOp T (memb o.dst g) o E H k) ∨ (wantE all o E = some false ∧ y = .v undef)) ∧ ∀ d, o.dst = some d → lk E d = some y
theorem now_of {all : List Oper} {E : Env} {H : List Chunk} {o : Oper} (hl : lightK o.op = true) (hw : wantE all o E = some true) (h : evOp T (memb o.dst g) o E H (Same E H o.dst)) : Now T g all E H o := by
  obtain ⟨y, ⟨_, h1⟩, h2⟩ := evOp_det hl _ h
  refine ⟨y, .inl ⟨hw, h2⟩, fun d hd => ?_⟩
  rw [hd] at h1; exact h1
theorem now_undef {all : List Oper} {E : Env} {H : List Chunk} {o : Oper} (hw : wantE all o E = some false) (h : Same E H o.dst (.v undef) H) : Now T g all E H o := by
  refine ⟨_, .inr ⟨hw, rfl⟩, fun d hd => ?_⟩
  have := h.v
  rw [hd] at this; exact this
theorem reP_ok {all : List Oper} {E : Env} {H : List Chunk} : ∀ {re : List Nat} {X : Prop}, reP T g all E H re X → X ∧ ∀ j ∈ re, ∀ o, nth all j = some o → lightK o.op = true → Now T g all E H o
  | [], X, h => ⟨h, fun j hj => by cases hj⟩
  | j :: r, X, h => by
    obtain ⟨h1, h2⟩ := h
    obtain ⟨hX, hr⟩ := reP_ok h2
    refine ⟨hX, fun i hi o ho hl => ?_⟩
    rcases List.mem_cons.1 hi with rfl | hi
    · rw [ho] at h1
      simp only at h1
      cases hg : o.guard with
      | none =>
        rw [hg] at h1
        exact now_of hl (by simp [wantE, hg]) h1
      | some jw =>
        obtain ⟨jj, want⟩ := jw
        rw [hg] at h1
        simp only at h1
        split at h1
        · rename_i b hb
          by_cases hbw : b = want
          · subst hbw
            exact now_of hl (by simp [wantE, hg, hb]) h1.t
          · have hbw' : b = !want := by cases b <;> cases want <;> simp_all
            subst hbw'
            refine now_undef ?_ h1.f
            simp only [wantE, hg, hb]
            cases want <;> rfl
        · rename_i hb
          exact now_undef (by simp [wantE, hg, hb]) h1
        · exact absurd h1 id
    · exact hr i hi o ho hl
/-- What evaluates to one thing is that, wanted or not. -/
theorem pStep_cons {all : List Oper} {E : Env} {H : List Chunk} {X : Env → List Chunk → Prop} {i : Nat} {re : List Nat} {o : Oper} (ho : nth all i = some o) (h : pStep T n g all i re X E H) :
    ∃ E1, (∀ t, lk E1 t = lk E t) ∧
      ((wantE all o E1 = some true ∧ evOp T (memb o.dst g) o E1 H (fun v H' => putE n o.dst v E1 (fun E' => reP T g all E' H' re (X E' H')))) ∨
       (wantE all o E1 = some false ∧ putE n o.dst (.v undef) E1 (fun E' => X E' H))) := by
  unfold pStep at h
  rw [ho] at h
  simp only [comp_eq] at h
  cases hg : o.guard with
  | none =>
    rw [hg] at h
    exact ⟨E, fun _ => rfl, .inl ⟨by simp [wantE, hg], h⟩⟩
  | some jw =>
    obtain ⟨j, want⟩ := jw
    rw [hg] at h
    simp only at h
    split at h
    · rename_i b hb
      by_cases hbw : b = want
      · subst hbw
        have hs := gval_set hb
        refine ⟨_, hs, .inl ⟨?_, h.t⟩⟩
        simp only [wantE, hg]
        rw [gval_congr (fun o d _ _ => hs d), hb]
        simp
      · have hbw' : b = !want := by cases b <;> cases want <;> simp_all
        subst hbw'
        have hs := gval_set hb
        refine ⟨_, hs, .inr ⟨?_, h.f⟩⟩
        simp only [wantE, hg]
        rw [gval_congr (fun o d _ _ => hs d), hb]
        cases want <;> rfl
    · rename_i hb
      exact ⟨E, fun _ => rfl, .inr ⟨by simp [wantE, hg, hb], h⟩⟩
    · exact absurd h id
theorem DI.env {D : List Nat} {S : Array Bool} {E E1 : Env} {H : List Chunk} {all : List Oper} (hd : DI n T g A all E0 D S E H) (hE : ∀ t, lk E1 t = lk E t) : DI n T g A all E0 D S E1 H := by
  refine ⟨hd.size, hd.anc, hd.cl, hd.sub, hd.hvy, fun t ht => by rw [hE]; exact hd.base t ht, fun i hi hS => ?_⟩
  obtain ⟨o, Ei, y, h1, h2, h3, h4⟩ := hd.facts i hi hS
  exact ⟨o, Ei, y, h1, fun t ht => by rw [hE]; exact h2 t ht, h3, fun d e => by rw [hE]; exact h4 d e⟩
theorem SI.env {S : Array Bool} {E E1 : Env} {ρ : Nat → Option Nat} {J : Bool → Nat → Prop} {w : World} {a : Act} {all : List Oper} (hs : SI n all E0 S E ρ J w a) (hE : ∀ t, lk E1 t = lk E t) : SI n all E0 S E1 ρ J w a :=
  ⟨hs.size, hs.defers, fun t q v h1 h2 h3 => hs.s1 t q v h1 h2 (by rw [← hE]; exact h3), hs.s2⟩
theorem sole_of {all : List Oper} {D l : List Nat} (h : soleB A all D l = true) {j : Nat} (hj : j < all.length) : j ∈ D ∨ j ∈ l ∨ ∃ q ∈ an A j, q ∉ D := by
  unfold soleB at h
  have := allI_get h (by rw [nth_eq]; exact List.getElem?_eq_getElem hj)
  rw [Nat.zero_add, Bool.or_eq_true, Bool.or_eq_true, memN_iff, memN_iff, List.any_eq_true] at this
  rcases this with (h | h) | ⟨q, h1, h2⟩
  · exact .inl h
  · exact .inr (.inl h)
  · refine .inr (.inr ⟨q, h1, fun hq => ?_⟩)
    rw [memN_iff.2 hq] at h2; cases h2
theorem nil_cover {all : List Oper} {D : List Nat} (h : allI (fun _ i => memN i D) all 0 = true) {j : Nat} (hj : j < all.length) : j ∈ D := by
  have := allI_get h (by rw [nth_eq]; exact List.getElem?_eq_getElem hj)
  rw [Nat.zero_add, memN_iff] at this
  exact this
theorem count_step {S : Array Bool} {i : Nat} (hi : i < S.size) (h : S.getD i false = false) : (S.setIfInBounds i true).toList.count false + 1 = S.toList.count false := by
  have hb : S.toList[i]'(by simpa using hi) = false := by simpa [hi] using h
  rw [Array.toList_setIfInBounds, List.count_set (by simpa using hi)]
  have hp : 0 < S.toList.count false := List.count_pos_iff.2 (by rw [← hb]; exact List.getElem_mem _)
  rw [hb]
  simp only [beq_self_eq_true, if_true, (by decide : (true == false) = false), Bool.false_eq_true, if_false]
  omega
/-- The operations that are listed one after the other. -/
theorem inner (hA : allI (ancP A) ops.toList 0 = true) (hU : allI (dstP ops.toList) ops.toList 0 = true) {Q : Exit → Act → World → Prop} {D : List Nat} {E : Env} {H : List Chunk}
    (hend : ∀ S J ρ φ a w, DI n T g A ops.toList E0 D S E H → SI n ops.toList E0 S E ρ J w a → Sat w0 M J0 J ρ φ H w → Region.ready .any ops S = [] → Q .normal a w)
    (hnext : ∀ fuel S J ρ φ a w i, DI n T g A ops.toList E0 D S E H → SI n ops.toList E0 S E ρ J w a → Sat w0 M J0 J ρ φ H w → i ∈ Region.ready .any ops S → i ∉ D → S.toList.count false ≤ fuel + 1 →
      wpOp P ops Q i (wpAny P .any ops Q fuel (S.setIfInBounds i true)) a w) :
    ∀ (fuel : Nat) (S : Array Bool) (J : Bool → Nat → Prop) (ρ : Nat → Option Nat) (φ : Nat → Nat → Prop) (a : Act) (w : World), DI n T g A ops.toList E0 D S E H → SI n ops.toList E0 S E ρ J w a → Sat w0 M J0 J ρ φ H w → S.toList.count false ≤ fuel → wpAny P .any ops Q fuel S a w := by
  intro fuel
  induction fuel with
  | zero =>
    intro S J ρ φ a w hd hs hw hf
    have hr : Region.ready .any ops S = [] := by
      rw [List.eq_nil_iff_forall_not_mem]
      intro i hi
      obtain ⟨h1, h2, _⟩ := ready_of hi
      have := count_step h2 h1
      omega
    exact ⟨hr, hend S J ρ φ a w hd hs hw hr⟩
  | succ fuel ih =>
    intro S J ρ φ a w hd hs hw hf
    refine ⟨hend S J ρ φ a w hd hs hw, fun i hi => ?_⟩
    by_cases hiD : i ∈ D
    · obtain ⟨h1, h2, _⟩ := ready_of hi
      have hc := count_step h2 h1
      refine fact_step hA hU hd hs hw hi (hd.facts i hiD h1) (fun a' w' J' ρ' φ' hw' hs' => ih _ J' ρ' φ' a' w' ?_ hs' hw' (by omega))
      refine ⟨by simpa using hd.size, hd.anc, fun j hj q hq => ?_, fun j hj => ?_, fun j hj hh => (getD_set h2).2 (.inl (hd.hvy j hj hh)), hd.base, fun j hj hS => ?_⟩
      · rw [getD_set h2] at hj ⊢
        rcases hj with hj | rfl
        · exact .inl (hd.cl j hj q hq)
        · exact .inl (ready_anc hA hd.cl hi q hq)
      · rw [getD_set h2] at hj
        rcases hj with hj | rfl
        · exact hd.sub j hj
        · exact hiD
      · rw [getD_set' h2] at hS
        exact hd.facts j hj hS.1
    · exact hnext fuel S J ρ φ a w i hd hs hw hi hiD hf
/-- A heavy operation is done. -/
theorem heavy_step (hA : allI (ancP A) ops.toList 0 = true) (hU : allI (dstP ops.toList) ops.toList 0 = true) {Q : Exit → Act → World → Prop} {D : List Nat} {E : Env} {H : List Chunk} {X : Env → List Chunk → Prop} {j : Nat} {re : List Nat}
    (hst : stepB A ops.toList D j re = true) (hh : heavyB ops.toList j = true) (he0 : pStep T n g ops.toList j re X E H)
    (hcont : ∀ E' H', X E' H' → ∀ (fuel : Nat) (S : Array Bool) (J : Bool → Nat → Prop) (ρ : Nat → Option Nat) (φ : Nat → Nat → Prop) (a : Act) (w : World), DI n T g A ops.toList E0 (j :: D) S E' H' → SI n ops.toList E0 S E' ρ J w a → Sat w0 M J0 J ρ φ H' w → S.toList.count false ≤ fuel → wpAny P .any ops Q fuel S a w)
    (fuel : Nat) (S : Array Bool) (J : Bool → Nat → Prop) (ρ : Nat → Option Nat) (φ : Nat → Nat → Prop) (a : Act) (w : World) (hd : DI n T g A ops.toList E0 D S E H) (hs : SI n ops.toList E0 S E ρ J w a) (hw : Sat w0 M J0 J ρ φ H w) (hj : j ∈ Region.ready .any ops S) (hf : S.toList.count false ≤ fuel + 1) :
    wpOp P ops Q j (wpAny P .any ops Q fuel (S.setIfInBounds j true)) a w := by
  unfold stepB at hst
  rw [Bool.and_eq_true] at hst
  obtain ⟨hc1, hc2⟩ := hst
  have hiD : j ∉ D := fun h => by rw [memN_iff.2 h] at hc1; cases hc1
  unfold heavyB at hh
  cases ho : nth ops.toList j with
  | none => rw [ho] at hc2; cases hc2
  | some o =>
  rw [ho] at hc2 hh
  simp only [Bool.and_eq_true] at hc2
  obtain ⟨⟨hc4, hc5⟩, hc6⟩ := hc2
  have hlight : lightK o.op = false := by simpa using hh
  have hancD : ∀ q ∈ an A j, q ∈ D := fun q hq => memN_iff.1 (List.all_eq_true.1 hc4 q hq)
  have hlook : ∀ t ∈ looks ops.toList o, ∀ q, wr ops.toList t = some q → q ∈ an A j ∨ j ∈ an A q := fun t ht q hq => by
    have := List.all_eq_true.1 hc5 t ht
    unfold lookP at this
    rw [hq] at this
    simp only [Bool.or_eq_true, memN_iff] at this
    exact this
  obtain ⟨E1, hE1, he1⟩ := pStep_cons ho he0
  rw [hlight] at hc6
  simp only [cond_false, Bool.and_eq_true] at hc6
  obtain ⟨hc7, hc9⟩ := hc6
  obtain ⟨hSj, hlt, _⟩ := ready_of hj
  have hanc := ready_anc hA hd.cl hj
  have hd1 := hd.env hE1
  have hs1 := hs.env hE1
  have slot : ∀ t ∈ looks ops.toList o, ∀ v, lk E1 t = some v → ∃ u, a.tmps[t]? = some u ∧ Rep ρ J w v u := by
    intro t ht v hv
    cases hq : wr ops.toList t with
    | none => exact hs1.s2 t v (fun q e => by rw [hq] at e; cases e) (by rw [← hd1.base t (fun q e => by rw [hq] at e; cases e)]; exact hv)
    | some q =>
      rcases hlook t ht q hq with h5 | h5
      · exact hs1.s1 t q v hq (hanc q h5) hv
      · have hqS : S.getD q false = false := by
          cases h : S.getD q false with
          | false => rfl
          | true => rw [hd.cl q h j h5] at hSj; cases hSj
        refine hs1.s2 t v (fun q' e => by rw [hq] at e; cases e; exact hqS) ?_
        rw [← hd1.base t (fun q' e hq' => ?_)]
        · exact hv
        · rw [hq] at e; cases e; exact hiD (hd.anc q hq' j h5)
  have hen : EnvOk n ρ J w (restr E1 (looks ops.toList o)) a := ⟨hs.size, fun t v e => by obtain ⟨h1, h2⟩ := restr_some e; exact slot t h1 v h2, hs.defers⟩
  have hwr : wantE ops.toList o (restr E1 (looks ops.toList o)) = wantE ops.toList o E1 := wantE_congr (fun t ht => restr_mem ht)
  have ho' : ops[j]? = some o := by rw [nth_eq, Array.getElem?_toList] at ho; exact ho
  have hcnt := count_step hlt hSj
  -- what is known behind it
  have next : ∀ {E' : Env} {H' : List Chunk}, (∀ t, o.dst ≠ some t → lk E' t = lk E1 t) → (∀ i ∈ D, S.getD i false = false → Fact (n := n) T g A ops.toList E0 E' H' i) → DI n T g A ops.toList E0 (j :: D) (S.setIfInBounds j true) E' H' := by
    intro E' H' h4 hfacts
    refine ⟨by simpa using hd.size, ?_, ?_, ?_, fun x hx hh => ?_, ?_, ?_⟩
    rotate_left 3
    · rw [getD_set hlt]
      rcases List.mem_cons.1 hx with rfl | hx
      · exact .inr rfl
      · exact .inl (hd.hvy x hx hh)
    rotate_right 3
    · intro x hx q hq
      rcases List.mem_cons.1 hx with rfl | hx
      · exact .tail _ (hancD q hq)
      · exact .tail _ (hd.anc x hx q hq)
    · intro x hx q hq
      rw [getD_set hlt] at hx ⊢
      rcases hx with hx | rfl
      · exact .inl (hd.cl x hx q hq)
      · exact .inl (hanc q hq)
    · intro x hx
      rw [getD_set hlt] at hx
      rcases hx with hx | rfl
      · exact .tail _ (hd.sub x hx)
      · exact .head _
    · intro t ht
      rw [h4 t (fun e => ht j (wr_of hU ho e) (by simp))]
      exact hd1.base t (fun q hq hqD => ht q hq (.tail _ hqD))
    · intro x hx hS
      rw [getD_set' hlt] at hS
      rcases List.mem_cons.1 hx with rfl | hx
      · exact absurd rfl hS.2
      · exact hfacts x hx hS.1
  unfold wpOp
  rw [ho']
  simp only
  rcases he1 with ⟨hw1, he⟩ | ⟨hw1, he⟩
  · rw [← hwr] at hw1
    rw [if_pos (wantE_wanted hen hw1)]
    refine .inl (evOp_ok (T := T) (g := memb o.dst g) hw hen (evOp_congr (fun t ht => restr_mem (List.mem_append.2 (.inr ht))) he) ?_)
    intro u v H' ρ' φ' J' w' hp hw' hg hr
    obtain ⟨E', h3, h4, h5⟩ := putE_env hp
    obtain ⟨h6, h7⟩ := reP_ok h3
    have hsn : SI n ops.toList E0 (S.setIfInBounds j true) E' ρ' J' w' (a.put o.dst u) := SI.put hU ho ((hs1.mono hg).next hU hSj ho h4) hlt hSj hr h5
    refine hcont E' H' h6 fuel _ J' ρ' φ' _ w' (next h4 (fun x hx hS => ?_)) hsn hw' (by omega)
    obtain ⟨ox, Ex, y, g1, g2, g3, g4⟩ := hd1.facts x hx hS
    have hxj : x ≠ j := fun e => hiD (e ▸ hx)
    have hxre : x ∈ re := by
      have := List.all_eq_true.1 hc7 x hx
      simp only [Bool.or_eq_true, memN_iff] at this
      rcases this with (h | h) | h
      · rw [hanc x h] at hS; cases hS
      · exact h
      · rw [hd.hvy x hx h] at hS; cases hS
    have hxl : lightK ox.op = true := by
      have := List.all_eq_true.1 hc9 x hxre
      unfold reChk at this
      rw [g1] at this
      simp only [Bool.and_eq_true] at this
      exact this.1
    obtain ⟨y', k1, k2⟩ := h7 x hxre ox g1 hxl
    refine ⟨ox, E', y', g1, fun t ht => ?_, k1, fun d e => ⟨(g4 d e).1, k2 d e⟩⟩
    cases hq : wr ops.toList t with
    | none => exact .inl ⟨rfl, fun q e => by cases e⟩
    | some q =>
      have := List.all_eq_true.1 hc9 x hxre
      unfold reChk at this
      rw [g1] at this
      simp only [Bool.and_eq_true, List.all_eq_true] at this
      have := this.2 t ht
      rw [hq] at this
      simp only [Bool.or_eq_true, Bool.and_eq_true, memN_iff, Bool.not_eq_true'] at this
      rcases this with h | ⟨h8, h9⟩
      · exact .inl ⟨rfl, fun q' e => by cases e; exact h⟩
      · have hqD : q ∉ j :: D := fun h => by rw [memN_iff.2 h] at h9; cases h9
        refine .inr ⟨q, rfl, h8, ?_⟩
        rw [h4 t (fun e => hqD (by rw [wr_of hU ho e] at hq; cases hq; exact .head _))]
        exact hd1.base t (fun q' e hq' => by rw [hq] at e; cases e; exact hqD (.tail _ hq'))
  · rw [← hwr] at hw1
    rw [if_neg (by rw [wantE_wanted hen hw1]; exact Bool.false_ne_true)]
    obtain ⟨E', h3, h4, h5⟩ := putE_env he
    have hsn : SI n ops.toList E0 (S.setIfInBounds j true) E' ρ J w (a.put o.dst undef) := SI.put hU ho (hs1.next hU hSj ho h4) hlt hSj (.v _) h5
    refine hcont E' H h3 fuel _ J ρ φ _ w (next h4 (fun x hx hS => ?_)) hsn hw (by omega)
    exact (hd1.facts x hx hS).next hU ho (fun e => hiD (e ▸ hx)) (fun e => hiD (hd.anc x hx j e)) h4
/-- A light operation is looked at. -/
theorem light_look (hA : allI (ancP A) ops.toList 0 = true) (hU : allI (dstP ops.toList) ops.toList 0 = true) {Q : Exit → Act → World → Prop} {D : List Nat} {E : Env} {H : List Chunk} {X : Env → List Chunk → Prop} {i : Nat} {re : List Nat}
    (hst : stepB A ops.toList D i re = true) (hh : heavyB ops.toList i = false) (he0 : pStep T n g ops.toList i re X E H)
    (fuel : Nat) (S : Array Bool) (J : Bool → Nat → Prop) (ρ : Nat → Option Nat) (φ : Nat → Nat → Prop) (a : Act) (w : World) (hd : DI n T g A ops.toList E0 D S E H) (hs : SI n ops.toList E0 S E ρ J w a) (hw : Sat w0 M J0 J ρ φ H w) (hf : S.toList.count false ≤ fuel)
    (hcont : ∀ E', X E' H → ∀ (fuel : Nat) (S : Array Bool) (J : Bool → Nat → Prop) (ρ : Nat → Option Nat) (φ : Nat → Nat → Prop) (a : Act) (w : World), DI n T g A ops.toList E0 (i :: D) S E' H → SI n ops.toList E0 S E' ρ J w a → Sat w0 M J0 J ρ φ H w → S.toList.count false ≤ fuel → wpAny P .any ops Q fuel S a w) :
    wpAny P .any ops Q fuel S a w := by
  unfold stepB at hst
  rw [Bool.and_eq_true] at hst
  obtain ⟨hc1, hc2⟩ := hst
  have hiD : i ∉ D := fun h => by rw [memN_iff.2 h] at hc1; cases hc1
  unfold heavyB at hh
  cases ho : nth ops.toList i with
  | none => rw [ho] at hc2; cases hc2
  | some o =>
  rw [ho] at hc2 hh
  simp only [Bool.and_eq_true] at hc2
  obtain ⟨⟨hc4, hc5⟩, hc6⟩ := hc2
  have hlight : lightK o.op = true := by simpa using hh
  have hancD : ∀ q ∈ an A i, q ∈ D := fun q hq => memN_iff.1 (List.all_eq_true.1 hc4 q hq)
  have hlook : ∀ t ∈ looks ops.toList o, ∀ q, wr ops.toList t = some q → q ∈ an A i ∨ i ∈ an A q := fun t ht q hq => by
    have := List.all_eq_true.1 hc5 t ht
    unfold lookP at this
    rw [hq] at this
    simp only [Bool.or_eq_true, memN_iff] at this
    exact this
  obtain ⟨E1, hE1, he1⟩ := pStep_cons ho he0
  rw [hlight] at hc6
  have hre : re = [] := by cases re with | nil => rfl | cons _ _ => cases hc6
  subst hre
  -- it is looked at
  have look : ∃ y E', X E' H ∧ (∀ t, o.dst ≠ some t → lk E' t = lk E1 t) ∧ (∀ d, o.dst = some d → d < n ∧ lk E' d = some y) ∧
      ((wantE ops.toList o E1 = some true ∧ ∀ k : K, k y H → evOp T (memb o.dst g) o E1 H k) ∨ (wantE ops.toList o E1 = some false ∧ y = .v undef)) := by
    rcases he1 with ⟨hw, he⟩ | ⟨hw, he⟩
    · obtain ⟨y, h1, h2⟩ := evOp_det hlight _ he
      obtain ⟨E', h3, h4, h5⟩ := putE_env h1
      exact ⟨y, E', h3, h4, h5, .inl ⟨hw, h2⟩⟩
    · obtain ⟨E', h3, h4, h5⟩ := putE_env he
      exact ⟨_, E', h3, h4, h5, .inr ⟨hw, rfl⟩⟩
  obtain ⟨y, E', h1, h2, h3, h4⟩ := look
  have hSi : S.getD i false = false := by
    cases h : S.getD i false with
    | false => rfl
    | true => exact absurd (hd.sub i h) hiD
  have hd1 := hd.env hE1
  refine hcont E' h1 fuel S J ρ φ a w (hd1.next hU hiD ho (by unfold heavyB; rw [ho]; simpa using hlight) hancD h2 ⟨o, E1, y, ho, fun t ht => ?_, h4, h3⟩) ((hs.env hE1).next hU hSi ho h2) hw hf
  cases hq : wr ops.toList t with
  | none => exact .inl ⟨(h2 t (fun e => by rw [wr_of hU ho e] at hq; cases hq)).symm, fun q e => by cases e⟩
  | some q =>
    rcases hlook t ht q hq with h5 | h5
    · refine .inl ⟨(h2 t (fun e => ?_)).symm, fun q' e => by cases e; exact h5⟩
      rw [wr_of hU ho e] at hq
      cases hq
      exact hiD (hancD i h5)
    · refine .inr ⟨q, rfl, h5, hd1.base t (fun q' e hq' => ?_)⟩
      rw [hq] at e
      cases e
      exact hiD (hd.anc q hq' i h5)
theorem draw_any (hA : allI (ancP A) ops.toList 0 = true) (hU : allI (dstP ops.toList) ops.toList 0 = true) {Q : Exit → Act → World → Prop} {k : Env → List Chunk → Prop}
    (hk : ∀ E H J ρ φ a w, k E H → Sat w0 M J0 J ρ φ H w → EnvOk n ρ J w E a → Q .normal a w) :
    ∀ (π : PT), (∀ (D : List Nat) (E : Env) (H : List Chunk), chkT A ops.toList π false D = true → evPi T n g ops.toList π false E H k →
      ∀ (fuel : Nat) (S : Array Bool) (J : Bool → Nat → Prop) (ρ : Nat → Option Nat) (φ : Nat → Nat → Prop) (a : Act) (w : World), DI n T g A ops.toList E0 D S E H → SI n ops.toList E0 S E ρ J w a → Sat w0 M J0 J ρ φ H w → S.toList.count false ≤ fuel → wpAny P .any ops Q fuel S a w) ∧
      (∀ (D : List Nat) (E : Env) (H : List Chunk), chkT A ops.toList π true D = true → evPi T n g ops.toList π true E H k → ∀ j ∈ π.heads,
      ∀ (fuel : Nat) (S : Array Bool) (J : Bool → Nat → Prop) (ρ : Nat → Option Nat) (φ : Nat → Nat → Prop) (a : Act) (w : World), DI n T g A ops.toList E0 D S E H → SI n ops.toList E0 S E ρ J w a → Sat w0 M J0 J ρ φ H w → j ∈ Region.ready .any ops S → S.toList.count false ≤ fuel + 1 → wpOp P ops Q j (wpAny P .any ops Q fuel (S.setIfInBounds j true)) a w) := by
  intro π
  induction π with
  | nil =>
    refine ⟨fun D E H hc he => ?_, fun D E H _ _ j hj => absurd hj List.not_mem_nil⟩
    have hc : allI (fun _ i => memN i D) ops.toList 0 = true := hc
    have he : k E H := he
    refine inner hA hU (fun S J ρ φ a w hd hs hw hr => ?_) (fun fuel S J ρ φ a w i hd hs hw hi hiD _ => ?_)
    · have hall := ready_nil hA hd.size hr
      refine hk E H J ρ φ a w he hw ⟨hs.size, fun t v e => ?_, hs.defers⟩
      cases hq : wr ops.toList t with
      | none => exact hs.s2 t v (fun q h => by rw [hq] at h; cases h) (by rw [← hd.base t (fun q h => by rw [hq] at h; cases h)]; exact e)
      | some q =>
        have : q < ops.toList.length := by have := wrG_lt hq; omega
        exact hs.s1 t q v hq (hall q this) e
    · obtain ⟨_, h2, _⟩ := ready_of hi
      exact absurd (nil_cover hc (by have := hd.size; omega)) hiD
  | st i re r ih =>
    refine ⟨fun D E H hc he => ?_, fun D E H _ _ j hj => absurd hj List.not_mem_nil⟩
    have hc : (stepB A ops.toList D i re && (cond (heavyB ops.toList i) (soleB A ops.toList D [i]) true && chkT A ops.toList r false (i :: D))) = true := hc
    rw [Bool.and_eq_true, Bool.and_eq_true] at hc
    obtain ⟨hc1, hc2, hc3⟩ := hc
    rw [evPi_st] at he
    cases hb : heavyB ops.toList i with
    | false =>
      intro fuel S J ρ φ a w hd hs hw hf
      exact light_look hA hU hc1 hb he fuel S J ρ φ a w hd hs hw hf (fun E' hx => ih.1 (i :: D) E' H hc3 hx)
    | true =>
      rw [hb] at hc2
      have hc2 : soleB A ops.toList D [i] = true := hc2
      have hiD : i ∉ D := fun h => by
        unfold stepB at hc1
        rw [memN_iff.2 h] at hc1; cases hc1
      have hil : i < ops.toList.length := by
        unfold heavyB at hb
        cases ho : nth ops.toList i with
        | none => rw [ho] at hb; cases hb
        | some o => rw [nth_eq] at ho; exact lt_of_get ho
      refine inner hA hU (fun S J ρ φ a w hd hs hw hr => ?_) (fun fuel S J ρ φ a w j hd hs hw hj hjD hf => ?_)
      · have hall := ready_nil hA hd.size hr
        exact absurd (hd.sub i (hall i hil)) hiD
      · obtain ⟨hSj, hlt, _⟩ := ready_of hj
        have hanc := ready_anc hA hd.cl hj
        rcases sole_of hc2 (j := j) (by have := hd.size; omega) with h | h | ⟨q, h1, h2⟩
        · exact absurd h hjD
        · obtain rfl := List.mem_singleton.1 h
          exact heavy_step hA hU hc1 hb he (fun E' H' hx => ih.1 (j :: D) E' H' hc3 hx) fuel S J ρ φ a w hd hs hw hj hf
        · exact absurd (hd.sub q (hanc q h1)) h2
  | ch c ih =>
    refine ⟨fun D E H hc he => ?_, fun D E H _ _ j hj => absurd hj List.not_mem_nil⟩
    have hc : (!nilL c.heads && (soleB A ops.toList D c.heads && chkT A ops.toList c true D)) = true := hc
    rw [Bool.and_eq_true, Bool.and_eq_true] at hc
    obtain ⟨hne, hc⟩ := hc
    rw [evPi_ch] at he
    have hch := ih.2 D E H hc.2 he
    refine inner hA hU (fun S J ρ φ a w hd hs hw hr => ?_) (fun fuel S J ρ φ a w j hd hs hw hj hjD hf => ?_)
    · cases c with
      | hv i re r alt =>
        have h2 := hc.2
        have h2 : (stepB A ops.toList D i re && (heavyB ops.toList i && (chkT A ops.toList r false (i :: D) && chkT A ops.toList alt true D))) = true := h2
        rw [Bool.and_eq_true, Bool.and_eq_true] at h2
        obtain ⟨hc1, hb, -⟩ := h2
        have hiD : i ∉ D := fun h => by
          unfold stepB at hc1
          rw [memN_iff.2 h] at hc1; cases hc1
        have hil : i < ops.toList.length := by
          unfold heavyB at hb
          cases ho : nth ops.toList i with
          | none => rw [ho] at hb; cases hb
          | some o => rw [nth_eq] at ho; exact lt_of_get ho
        exact absurd (hd.sub i (ready_nil hA hd.size hr i hil)) hiD
      | _ => cases hne
    · obtain ⟨hSj, hlt, _⟩ := ready_of hj
      have hanc := ready_anc hA hd.cl hj
      rcases sole_of hc.1 (j := j) (by have := hd.size; omega) with h | h | ⟨q, h1, h2⟩
      · exact absurd h hjD
      · exact hch j h fuel S J ρ φ a w hd hs hw hj hf
      · exact absurd (hd.sub q (hanc q h1)) h2
  | hv i re r alt ih ia =>
    refine ⟨fun D E H hc he => absurd hc (by show ¬ (false = true); exact Bool.false_ne_true), fun D E H hc he j hj => ?_⟩
    have hc : (stepB A ops.toList D i re && (heavyB ops.toList i && (chkT A ops.toList r false (i :: D) && chkT A ops.toList alt true D))) = true := hc
    rw [Bool.and_eq_true, Bool.and_eq_true, Bool.and_eq_true] at hc
    obtain ⟨hc1, hb, hc3, hc4⟩ := hc
    rw [evPi_hv] at he
    rcases List.mem_cons.1 (show j ∈ i :: alt.heads from hj) with rfl | hj
    · exact fun fuel S J ρ φ a w hd hs hw hj hf => heavy_step hA hU hc1 hb he.1 (fun E' H' hx => ih.1 (j :: D) E' H' hc3 hx) fuel S J ρ φ a w hd hs hw hj hf
    · exact ia.2 D E H hc4 he.2 j hj
/-- A drawn region. -/
theorem draw_ok (hm : P.follows .mixedOrders = true) {Q : Exit → Act → World → Prop} {k : Env → List Chunk → Prop} {id : Nat} {π : PT} {E : Env} {H : List Chunk} {J : Bool → Nat → Prop} {ρ : Nat → Option Nat} {φ : Nat → Nat → Prop} {a : Act} {w : World}
    (hs : Sat w0 M J0 J ρ φ H w) (he : EnvOk n ρ J w E a) (h : DrawP (drawChk ops.toList π) (evPi T n g ops.toList π false E H k))
    (hk : ∀ E H J ρ φ a w, k E H → Sat w0 M J0 J ρ φ H w → EnvOk n ρ J w E a → Q .normal a w) : (Code.region id ops true).wp P Q a w := by
  refine wp_region_any hm ?_
  obtain ⟨hc, hx⟩ := h
  unfold drawChk at hc
  rw [Bool.and_eq_true, Bool.and_eq_true] at hc
  have no : ∀ i, (Array.replicate ops.size false).getD i false = false := fun i => by
    by_cases h : i < ops.size
    · simp [h]
    · simp [h]
  refine (draw_any (E0 := E) hc.2.1 hc.1 hk π).1 [] E H hc.2.2 hx ops.size _ J ρ φ a _ ⟨by simp, fun i hi => (by cases hi), fun i hi => (by rw [no] at hi; cases hi), fun i hi => (by rw [no] at hi; cases hi), fun i hi => (by cases hi), fun _ _ => rfl, fun i hi => (by cases hi)⟩
    ⟨he.size, he.defers, fun t q v h1 h2 => (by rw [no] at h2; cases h2), fun t v _ e => ?_⟩ (hs.heap rfl rfl rfl rfl) (by simp)
  obtain ⟨u, e1, e2⟩ := he.get t v e
  exact ⟨u, e1, Rep.mono (Grow.heap (w := w) (w' := { w with drawn := w.drawn + 1 }) rfl) e2⟩
end
end Go.Proofs.Ytcfmlnddmpiemaa.Sx

