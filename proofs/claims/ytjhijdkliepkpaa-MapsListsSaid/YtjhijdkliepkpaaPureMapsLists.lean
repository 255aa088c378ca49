/- The pure statement of the law MapsLists: for all arguments as Go can hand them in, the printed law answers true. -/
import Derived.Test.YtjhijdkliepkpaaMapEMap
import Derived.Test.YtjhijdkliepkpaaPMapx0
import Derived.Test.YtjhijdkliepkpaaPMapx8
set_option linter.unusedVariables false
set_option linter.unusedSimpArgs false
namespace Go.Proofs.Ytjhijdkliepkpaa.Pure
open Go.RowKit Go.Proofs.Ytjhijdkliepkpaa.PMap Go.Proofs.Ytjhijdkliepkpaa.Base Go.Proofs.Ytjhijdkliepkpaa.OctUMap Go.Proofs.Ytjhijdkliepkpaa.OctPMap Go.Proofs.Ytjhijdkliepkpaa.OctRMap Go.Proofs.Ytjhijdkliepkpaa.MapEMap Go.Proofs.YtjhijdkliepkpaaW.PrintWords Go.Proofs.YtjhijdkliepkpaaW.PrintLast

theorem rdT {l : List S36} {i : Nat} (h : i < l.length) : rd_T36 l i = l[i] := by
  show l.getD (i : Int).toNat z36 = l[i]
  simp [List.getD_eq_getElem?_getD, List.getElem?_eq_getElem h]
def enc1 (x : S36) : Int × Int := encv x.f0 x.f1 x.f2
def renc1 (x : S36) : Int × Bool := rencv x.f0 x.f1 x.f2
/-- The entries' numbers one behind the other. -/
def lay (l : List S36) : List Int := (l.map fun x => leb 8 (enc1 x).1).flatten
def rlay (l : List S36) : List Int := (l.map fun x => leb 8 (renc1 x).1).flatten
theorem lay_length (l : List S36) : (lay l).length = 8 * l.length := by
  induction l with
  | nil => rfl
  | cons a l ih =>
    have : lay (a :: l) = leb 8 (enc1 a).1 ++ lay l := rfl
    rw [this, List.length_append, leb_length, ih]
    simp; omega
theorem lay_b8 (l : List S36) : B8 (lay l) := by
  induction l with
  | nil => exact B8.nil
  | cons a l ih =>
    have : lay (a :: l) = leb 8 (enc1 a).1 ++ lay l := rfl
    rw [this]
    exact (leb_b8 _ _).append ih
theorem rlay_length (l : List S36) : (rlay l).length = 8 * l.length := by
  induction l with
  | nil => rfl
  | cons a l ih =>
    have : rlay (a :: l) = leb 8 (renc1 a).1 ++ rlay l := rfl
    rw [this, List.length_append, leb_length, ih]
    simp; omega
theorem rlay_b8 (l : List S36) : B8 (rlay l) := by
  induction l with
  | nil => exact B8.nil
  | cons a l ih =>
    have : rlay (a :: l) = leb 8 (renc1 a).1 ++ rlay l := rfl
    rw [this]
    exact (leb_b8 _ _).append ih
theorem lay_rlay {l : List S36} (h : ∀ x ∈ l, (enc1 x).2 = 0) : rlay l = lay l := by
  induction l with
  | nil => rfl
  | cons a l ih =>
    have e1 : lay (a :: l) = leb 8 (enc1 a).1 ++ lay l := rfl
    have e2 : rlay (a :: l) = leb 8 (renc1 a).1 ++ rlay l := rfl
    rw [e1, e2, ih (fun x hx => h x (by simp [hx])), show (renc1 a).1 = (enc1 a).1 from rencv_val (h a (by simp))]
/-- What Bytes answers: the numbers, or the form's error. -/
theorem bytes_loop (l : List S36) (hl : l.length ≤ 100) : ∀ (d k i : Nat), i + d = l.length → d + 9 < k → (∀ x ∈ l.take i, (enc1 x).2 = 0) →
    maps_Bytes.l0 k (lay (l.take i) ++ List.replicate (8 * (l.length - i)) 0) l l.length i = some (if ∀ x ∈ l, (enc1 x).2 = 0 then (lay l, 0) else ([], 11)) := by
  intro d
  induction d with
  | zero =>
    intro k i hi hk hok
    obtain ⟨k, rfl⟩ : ∃ m, k = m + 10 := ⟨k - 10, by omega⟩
    have e : l.take i = l := List.take_of_length_le (by omega)
    rw [e] at hok
    rw [maps_Bytes.l0, if_neg (by omega), if_pos hok, e, show l.length - i = 0 by omega]
    simp
  | succ d ih =>
    intro k i hi hk hok
    obtain ⟨k, rfl⟩ : ∃ m, k = m + 10 := ⟨k - 10, by omega⟩
    have hlt : i < l.length := by omega
    rw [maps_Bytes.l0, if_pos (by omega), if_pos (by omega), if_pos (by omega), rdT hlt, Encode_eq (k + 6)]
    simp only [obind]
    by_cases h : (enc1 l[i]).2 = 0
    · have h' : (encv l[i].f0 l[i].f1 l[i].f2).2 = 0 := h
      have hp : ((lay (l.take i)).length : Int) = 8 * i := by rw [lay_length, List.length_take]; omega
      rw [if_pos h', w64 (by omega) (by omega), Put64_eq k _ _ _ (by simp; omega), if_pos (by rw [inb_iff]; simp; omega)]
      simp only [obind]
      have e1 : (8 * (i : Int)).toNat = (lay (l.take i)).length := by omega
      have e2 : (lay (l.take i) ++ List.replicate (8 * (l.length - i)) 0).take (8 * (i : Int)).toNat = lay (l.take i) := by
        rw [e1, List.take_left]
      have e3 : (lay (l.take i) ++ List.replicate (8 * (l.length - i)) 0).drop ((8 * (i : Int)).toNat + 8) = List.replicate (8 * (l.length - (i + 1))) (0 : Int) := by
        rw [e1, List.drop_append, List.drop_eq_nil_of_le (by omega), List.nil_append, List.drop_replicate]
        congr 1
        omega
      have e4 : lay (l.take i) ++ leb 8 (enc1 l[i]).1 = lay (l.take (i + 1)) := by
        rw [List.take_succ_eq_append_getElem hlt]
        simp only [lay, List.map_append, List.flatten_append, List.map_cons, List.map_nil, List.flatten_cons, List.flatten_nil, List.append_nil]
      have := ih (k + 9) (i + 1) (by omega) (by omega) (fun x hx => by
        rw [List.take_succ_eq_append_getElem hlt] at hx
        rcases List.mem_append.1 hx with hx | hx
        · exact hok x hx
        · rw [List.mem_singleton.1 hx]; exact h)
      rw [e2, e3, show (encv l[i].f0 l[i].f1 l[i].f2).1 = (enc1 l[i]).1 from rfl, e4, w64 (by omega) (by omega)]
      rw [show (((i + 1 : Nat) : Int)) = (i : Int) + 1 by omega] at this
      exact this
    · have h' : ¬ (encv l[i].f0 l[i].f1 l[i].f2).2 = 0 := h
      have hn : ¬ ∀ x ∈ l, (enc1 x).2 = 0 := fun g => h (g _ (List.getElem_mem hlt))
      rw [if_neg h', if_neg hn, encv_bad h']
theorem bytes_eq (k : Nat) (l : List S36) (hl : l.length ≤ 100) : maps_Bytes.f (k + 200) l = some (if ∀ x ∈ l, (enc1 x).2 = 0 then (lay l, 0) else ([], 11)) := by
  unfold maps_Bytes.f
  rw [w64 (by omega) (by omega), if_pos (by omega), if_pos (by omega)]
  have := bytes_loop l hl l.length (k + 200) 0 (by omega) (by omega) (fun x hx => by simp at hx)
  rw [show ((0 : Nat) : Int) = 0 from rfl] at this
  rw [← this]
  congr 1
/-- The entries of bytes, from a place on. -/
def dec1 (v : Int) : S36 := ⟨(decv v).1, (decv v).2.1, (decv v).2.2.1⟩
def ents (b : List Int) (n : Nat) : List S36 := (List.range n).map fun (j : Nat) => dec1 (num b (8 * (j : Int)) 8)
def allok (b : List Int) (n : Nat) : Prop := ∀ j < n, (decv (num b (8 * (j : Nat)) 8)).2.2.2 = 0
instance (b : List Int) (n : Nat) : Decidable (allok b n) := by unfold allok; infer_instance
theorem ents_length (b : List Int) (n : Nat) : (ents b n).length = n := by simp [ents]
theorem list_loop (b : List Int) (hb : B8 b) (hl : b.length ≤ 1000) : ∀ (d k i : Nat), i + d = b.length / 8 → d + 20 < k → allok b i →
    maps_List.l0 k b (ents b i) (8 * (i : Int)) = some (if allok b (b.length / 8) then (ents b (b.length / 8), 0) else ([], 11)) := by
  intro d
  induction d with
  | zero =>
    intro k i hi hk hok
    obtain ⟨k, rfl⟩ : ∃ m, k = m + 20 := ⟨k - 20, by omega⟩
    have e : i = b.length / 8 := by omega
    subst e
    rw [maps_List.l0, w64 (by omega) (by omega), if_neg (by omega), if_pos hok]
  | succ d ih =>
    intro k i hi hk hok
    obtain ⟨k, rfl⟩ : ∃ m, k = m + 20 := ⟨k - 20, by omega⟩
    have hnb := num_bound hb (8 * (i : Int)) 8
    have hr : rdn b (8 * (i : Int)) 8 = (num b (8 * (i : Int)) 8, true) := by unfold rdn; rw [if_pos (by rw [inb_iff]; omega)]
    rw [maps_List.l0, w64 (by omega) (by omega), if_pos (by omega), U64_eq (k + 10) b _ hb (by omega), hr]
    simp only [obind]
    rw [Decode_eq (k + 15) _ hnb.1 (by omega)]
    simp only [obind]
    by_cases h : (decv (num b (8 * (i : Int)) 8)).2.2.2 = 0
    · rw [if_pos h, if_pos (by rw [ents_length]; omega)]
      have := ih (k + 19) (i + 1) (by omega) (by omega) (fun j hj => by
        rcases Nat.lt_succ_iff_lt_or_eq.1 hj with hj | rfl
        · exact hok j hj
        · exact h)
      have e4 : ents b i ++ [(⟨(decv (num b (8 * (i : Int)) 8)).1, (decv (num b (8 * (i : Int)) 8)).2.1, (decv (num b (8 * (i : Int)) 8)).2.2.1⟩ : S36)] = ents b (i + 1) := by
        simp only [ents, List.range_succ, List.map_append, List.map_cons, List.map_nil]
        rfl
      rw [e4, show 8 * (i : Int) + 8 = 8 * ((i + 1 : Nat) : Int) by omega]
      exact this
    · have hn : ¬ allok b (b.length / 8) := fun g => h (g i (by omega))
      rw [if_neg h, if_neg hn, decv_bad h]
theorem list_eq (k : Nat) (b : List Int) (hb : B8 b) (hl : b.length ≤ 1000) : maps_List.f (k + 200) b = some (if allok b (b.length / 8) then (ents b (b.length / 8), 0) else ([], 11)) := by
  have := list_loop b hb hl (b.length / 8) (k + 200) 0 (by omega) (by omega) (fun j hj => by omega)
  simpa [maps_List.f, ents] using this
theorem l2_loop (b : List Int) (hb : B8 b) (hl : b.length ≤ 1000) (n : Nat) (hn : n = b.length / 8) : ∀ (d k i : Nat), i + d = n → d + 20 < k →
    fettlelaw09_MapsLists.l2 k b (ents b n) 0 i (8 * (i : Int)) = some true := by
  intro d
  induction d with
  | zero =>
    intro k i hi hk
    obtain ⟨k, rfl⟩ : ∃ m, k = m + 20 := ⟨k - 20, by omega⟩
    rw [fettlelaw09_MapsLists.l2, w64 (by omega) (by omega), if_neg (by omega), coded_eq (k + 9)]
    simp only [obind, if_true, ents_length]
    simp; omega
  | succ d ih =>
    intro k i hi hk
    obtain ⟨k, rfl⟩ : ∃ m, k = m + 20 := ⟨k - 20, by omega⟩
    have hnb := num_bound hb (8 * (i : Int)) 8
    have hr : rdn b (8 * (i : Int)) 8 = (num b (8 * (i : Int)) 8, true) := by unfold rdn; rw [if_pos (by rw [inb_iff]; omega)]
    have hN := Num_eq (k + 19) b (8 * (i : Int)) 8 hb (by omega) (by omega) (by omega)
    rw [show ((8 : Nat) : Int) = 8 from rfl] at hN
    have hlt : i < (ents b n).length := by rw [ents_length]; omega
    rw [fettlelaw09_MapsLists.l2, w64 (by omega) (by omega), if_pos (by omega), hN, hr]
    simp only [obind]
    rw [rDecode_eq _ hnb.1 (by omega)]
    simp only [obind]
    rw [if_neg (by omega), if_pos (by omega), if_pos (by omega), rdT hlt]
    have e : (ents b n)[i] = dec1 (num b (8 * (i : Int)) 8) := by simp [ents]
    rw [e]
    unfold fettlelaw09_of.f
    simp only [obind]
    rw [if_neg (by simp [dec1, rdecv]), w64 (by omega) (by omega), show 8 * (i : Int) + 8 = 8 * ((i + 1 : Nat) : Int) by omega]
    have := ih (k + 19) (i + 1) (by omega) (by omega)
    rw [show ((i + 1 : Nat) : Int) = (i : Int) + 1 by omega] at this ⊢
    exact this
theorem l1_loop (b : List Int) (hb : B8 b) (hl : b.length ≤ 1000) : ∀ (d k i : Nat), i + d = b.length / 8 → d + 300 < k → allok b i →
    fettlelaw09_MapsLists.l1 k b (if allok b (b.length / 8) then (ents b (b.length / 8), (0 : Int)) else ([], 11)).1 (if allok b (b.length / 8) then (ents b (b.length / 8), (0 : Int)) else ([], 11)).2 (8 * (i : Int)) = some true := by
  intro d
  induction d with
  | zero =>
    intro k i hi hk hok
    obtain ⟨k, rfl⟩ : ∃ m, k = m + 300 := ⟨k - 300, by omega⟩
    have e : i = b.length / 8 := by omega
    subst e
    rw [if_pos hok, fettlelaw09_MapsLists.l1, w64 (by omega) (by omega), if_neg (by omega)]
    exact l2_loop b hb hl _ rfl (b.length / 8) (k + 299) 0 (by omega) (by omega)
  | succ d ih =>
    intro k i hi hk hok
    obtain ⟨k, rfl⟩ : ∃ m, k = m + 300 := ⟨k - 300, by omega⟩
    have hnb := num_bound hb (8 * (i : Int)) 8
    have hr : rdn b (8 * (i : Int)) 8 = (num b (8 * (i : Int)) 8, true) := by unfold rdn; rw [if_pos (by rw [inb_iff]; omega)]
    have hN := Num_eq (k + 299) b (8 * (i : Int)) 8 hb (by omega) (by omega) (by omega)
    rw [show ((8 : Nat) : Int) = 8 from rfl] at hN
    rw [fettlelaw09_MapsLists.l1, w64 (by omega) (by omega), if_pos (by omega), hN, hr]
    simp only [obind]
    rw [rDecode_eq _ hnb.1 (by omega)]
    simp only [obind]
    by_cases h : (decv (num b (8 * (i : Int)) 8)).2.2.2 = 0
    · rw [if_pos (by simp [rdecv, h]), show 8 * (i : Int) + 8 = 8 * ((i + 1 : Nat) : Int) by omega]
      exact ih (k + 299) (i + 1) (by omega) (by omega) (fun j hj => by
        rcases Nat.lt_succ_iff_lt_or_eq.1 hj with hj | rfl
        · exact hok j hj
        · exact h)
    · have hn : ¬ allok b (b.length / 8) := fun g => h (g i (by omega))
      rw [if_neg hn, if_neg (by simp [rdecv, h]), coded_eq (k + 289)]
      simp only [obind, if_true]
      simp
theorem all_snoc (l : List S36) (a : S36) : decide (∀ x ∈ l ++ [a], (enc1 x).2 = 0) = (decide (∀ x ∈ l, (enc1 x).2 = 0) && (renc1 a).2) := by
  rw [Bool.eq_iff_iff, Bool.and_eq_true, decide_eq_true_eq, decide_eq_true_eq]
  constructor
  · intro g
    exact ⟨fun x hx => g x (List.mem_append_left _ hx), rencv_ok.2 (g _ (by simp))⟩
  · rintro ⟨g, g2⟩ x hx
    rcases List.mem_append.1 hx with hx | hx
    · exact g x hx
    · rw [List.mem_singleton.1 hx]; exact rencv_ok.1 g2
theorem l0_loop (l : List S36) (b : List Int) (hl : l.length ≤ 100) (hb : B8 b) (hbl : b.length ≤ 1000) : ∀ (d k i : Nat), i + d = l.length → d + 700 < k →
    fettlelaw09_MapsLists.l0 k l b (rlay (l.take i)) (decide (∀ x ∈ l.take i, (enc1 x).2 = 0)) i = some true := by
  intro d
  induction d with
  | zero =>
    intro k i hi hk
    obtain ⟨k, rfl⟩ : ∃ m, k = m + 700 := ⟨k - 700, by omega⟩
    have e : l.take i = l := List.take_of_length_le (by omega)
    have fin : fettlelaw09_MapsLists.j2 (k + 699) b false = some true := by
      rw [fettlelaw09_MapsLists.j2, if_neg (by simp), list_eq (k + 498) b hb hbl]
      simp only [obind]
      exact l1_loop b hb hbl (b.length / 8) (k + 698) 0 (by omega) (by omega) (fun j hj => by omega)
    rw [e, fettlelaw09_MapsLists.l0, if_neg (by omega), bytes_eq (k + 499) l hl]
    simp only [obind]
    by_cases h : ∀ x ∈ l, (enc1 x).2 = 0
    · rw [if_pos h, decide_eq_true h]
      simp only [beq_self_eq_true, bne_self_eq_false, Bool.false_eq_true, if_false, if_true]
      rw [lay_rlay h, Same_eq (lay_b8 l) (lay_b8 l)]
      simp only [obind, decide_true, if_true]
      exact fin
    · rw [if_neg h, decide_eq_false h]
      simp only [show ((11 : Int) == 0) = false from rfl, bne_self_eq_false, Bool.false_eq_true, if_false, if_true]
      exact fin
  | succ d ih =>
    intro k i hi hk
    obtain ⟨k, rfl⟩ : ∃ m, k = m + 700 := ⟨k - 700, by omega⟩
    have hlt : i < l.length := by omega
    have hrg : 0 ≤ (renc1 l[i]).1 ∧ (renc1 l[i]).1 < 18446744073709551616 := rencv_range _ _ _
    have hB := Bytes_eq (k + 699) (renc1 l[i]).1 8 hrg.1 hrg.2 (by omega) (by omega)
    rw [show ((8 : Nat) : Int) = 8 from rfl] at hB
    have hB' : fettleref01_Bytes.f (k + 699) (rencv l[i].f0 l[i].f1 l[i].f2).1 8 = some (leb 8 (renc1 l[i]).1) := hB
    rw [fettlelaw09_MapsLists.l0, if_pos (by omega), if_pos (by omega), rdT hlt]
    unfold fettlelaw09_of.f
    simp only [obind]
    rw [rEncode_eq (k + 696)]
    simp only [obind]
    have hlen : (rlay (l.take i)).length + (leb 8 (renc1 l[i]).1).length < 140737488355328 := by rw [rlay_length, leb_length, List.length_take]; omega
    have e4 : rlay (l.take i) ++ leb 8 (renc1 l[i]).1 = rlay (l.take (i + 1)) := by
      rw [List.take_succ_eq_append_getElem hlt]
      simp only [rlay, List.map_append, List.flatten_append, List.map_cons, List.map_nil, List.flatten_cons, List.flatten_nil, List.append_nil]
    have := ih (k + 699) (i + 1) (by omega) (by omega)
    rw [show ((i + 1 : Nat) : Int) = (i : Int) + 1 by omega] at this
    rw [List.take_succ_eq_append_getElem hlt, all_snoc, ← List.take_succ_eq_append_getElem hlt] at this
    by_cases h : ∀ x ∈ l.take i, (enc1 x).2 = 0
    · rw [decide_eq_true h] at this ⊢
      rw [if_pos rfl, hB']
      simp only [obind]
      rw [if_pos hlen, e4, w64 (by omega) (by omega)]
      rw [Bool.true_and] at this
      exact this
    · rw [decide_eq_false h] at this ⊢
      rw [if_neg (by simp), hB']
      simp only [obind]
      rw [if_pos hlen, e4, w64 (by omega) (by omega)]
      rw [Bool.false_and] at this
      exact this
theorem MapsLists : fettlelaw09_MapsLists.Pure := by
  intro l b hm hg hm' hw
  have hb := B8.of_wf hw
  refine ⟨1000, ?_⟩
  unfold fettlelaw09_MapsLists.f
  by_cases h : (l.length : Int) > 100
  · rw [if_pos h, fettlelaw09_MapsLists.j0, if_pos rfl, coded_eq 989]; rfl
  · rw [if_neg h, fettlelaw09_MapsLists.j0]
    by_cases h' : (b.length : Int) > 1000
    · rw [if_pos (by simpa using h'), coded_eq 989]; rfl
    · rw [if_neg (by simpa using h')]
      have := l0_loop l b (by omega) hb (by omega) l.length 999 0 (by omega) (by omega)
      simpa [rlay] using this
end Go.Proofs.Ytjhijdkliepkpaa.Pure
