import Derived.Test.YtjccknmgmommcaaSxF4
import Derived.Laws.BitsLemmas
set_option linter.unusedVariables false
set_option linter.unusedSimpArgs false
set_option maxRecDepth 10000
namespace Go.Proofs.Ytjccknmgmommcaa.Sx
open Go.RowKit Go.Proofs.Ytjccknmgmommcaa.Sx.Tb
def B8 (l : List Int) : Prop := ∀ x ∈ l, 0 ≤ x ∧ x < 256
theorem B8.nil : B8 [] := fun x hx => by cases hx
theorem B8.append {l m : List Int} (h : B8 l) (g : B8 m) : B8 (l ++ m) := fun x hx => by
  rcases List.mem_append.1 hx with hx | hx
  · exact h x hx
  · exact g x hx
theorem B8.take {l : List Int} (h : B8 l) (n : Nat) : B8 (l.take n) := fun x hx => h x (List.mem_of_mem_take hx)
theorem B8.drop {l : List Int} (h : B8 l) (n : Nat) : B8 (l.drop n) := fun x hx => h x (List.mem_of_mem_drop hx)
theorem B8.replicate (n : Nat) : B8 (List.replicate n 0) := fun x hx => by
  have := List.eq_of_mem_replicate hx
  omega
theorem B8.getD {l : List Int} (h : B8 l) (i : Nat) : 0 ≤ l.getD i 0 ∧ l.getD i 0 < 256 := by
  rw [List.getD_eq_getElem?_getD]
  cases hi : l[i]? with
  | none => simp
  | some x => exact h x (List.mem_of_getElem? hi)
theorem wu8 (x : Int) : IntKind.u8.wrap x = x % 256 := by simp [IntKind.wrap, IntKind.bits, IntKind.signed]
theorem wu16 (x : Int) : IntKind.u16.wrap x = x % 65536 := by simp [IntKind.wrap, IntKind.bits, IntKind.signed]
theorem wraps_u16 (n : Int) (h₀ : 0 ≤ n) (h₁ : n < 2 ^ 16) : IntKind.u16.wrap n = n := by rw [wu16]; omega
theorem or16 (v b : Int) (h0 : 0 ≤ v) (h1 : v < 256) (b0 : 0 ≤ b) (b1 : b < 256) : Go.bits .or .u16 (IntKind.u16.wrap (v * 256)) b = v * 256 + b := by
  rw [wraps_u16 _ (by omega) (by omega)]
  exact bits_join .u16 16 (by decide) wraps_u16 8 _ _ (by omega) (by omega) (by omega) b0 (by omega) (by omega)
/-- A number out of bytes, the lowest first. -/
def leV : List Int → Int
  | [] => 0
  | x :: r => x + 256 * leV r
/-- A number's bytes. -/
def leB : Nat → Int → List Int
  | 0, _ => []
  | n + 1, v => v % 256 :: leB n (v / 256)
def putB : List Int → Nat → Nat → Int → List Int
  | l, _, 0, _ => l
  | l, at_, n + 1, v => putB (l.set at_ (v % 256)) (at_ + 1) n (v / 256)
theorem leB_length : ∀ (n : Nat) (v : Int), (leB n v).length = n
  | 0, _ => rfl
  | n + 1, v => by simp [leB, leB_length n]
theorem leB_B8 : ∀ (n : Nat) (v : Int), B8 (leB n v)
  | 0, _ => B8.nil
  | n + 1, v => fun x hx => by
    rcases List.mem_cons.1 hx with rfl | hx
    · omega
    · exact leB_B8 n _ x hx
theorem leV_leB : ∀ (n : Nat) (v : Int), 0 ≤ v → v < 256 ^ n → leV (leB n v) = v
  | 0, v, h0, h1 => by simp at h1; simp [leB, leV]; omega
  | n + 1, v, h0, h1 => by
    rw [Int.pow_succ] at h1
    rw [leB, leV, leV_leB n (v / 256) (by omega) (by omega)]
    omega
theorem leV_nonneg : ∀ {l : List Int}, B8 l → 0 ≤ leV l
  | [], _ => Int.le_refl _
  | x :: r, h => by
    have h1 := h x (by simp)
    have h2 := leV_nonneg (l := r) (fun y hy => h y (by simp [hy]))
    rw [leV]; omega
theorem leV_lt : ∀ {l : List Int}, B8 l → leV l < 256 ^ l.length
  | [], _ => by simp [leV]
  | x :: r, h => by
    have h1 := h x (by simp)
    have h2 := leV_lt (l := r) (fun y hy => h y (by simp [hy]))
    rw [leV, List.length_cons, Int.pow_succ]; omega
theorem putB_eq : ∀ (n : Nat) (l : List Int) (at_ : Nat) (v : Int), at_ + n ≤ l.length → putB l at_ n v = l.take at_ ++ leB n v ++ l.drop (at_ + n)
  | 0, l, at_, v, h => by simp [putB, leB]
  | n + 1, l, at_, v, h => by
    rw [putB, putB_eq n _ _ _ (by rw [List.length_set]; omega), leB]
    have e1 : (l.set at_ (v % 256)).take (at_ + 1) = l.take at_ ++ [v % 256] := by
      apply List.ext_getElem?
      intro i
      rw [List.getElem?_take, List.getElem?_set, List.getElem?_append, List.getElem?_take, List.length_take]
      by_cases h1 : i < at_
      · rw [if_pos (by omega), if_neg (by omega), if_pos (by omega), if_pos h1]
      · by_cases h2 : i = at_
        · subst h2
          rw [if_pos (by omega), if_pos rfl, if_pos (by omega), if_neg (by omega), show i - min i l.length = 0 by omega]; rfl
        · rw [if_neg (by omega), if_neg (by omega)]
          symm
          apply List.getElem?_eq_none
          simp; omega
    have e2 : (l.set at_ (v % 256)).drop (at_ + 1 + n) = l.drop (at_ + (n + 1)) := by
      apply List.ext_getElem?
      intro i
      rw [List.getElem?_drop, List.getElem?_drop, List.getElem?_set, if_neg (by omega), show at_ + 1 + n + i = at_ + (n + 1) + i by omega]
    rw [e1, e2]
    simp
theorem pow256_le {a b : Nat} (h : a ≤ b) : (256 : Int) ^ a ≤ 256 ^ b := by
  have := Nat.pow_le_pow_right (n := 256) (by decide) h
  have e : ∀ n : Nat, ((256 ^ n : Nat) : Int) = (256 : Int) ^ n := fun n => by simp
  rw [← e, ← e]
  exact Int.ofNat_le.2 this
theorem oin_c (l : List Int) (p n : Int) (k : K) (h0 : l.length ≤ 1099511627776) (hk : ∀ r : Bool, (r = true ↔ 0 ≤ p ∧ 0 ≤ n ∧ p + n ≤ l.length) → k (.v (.bool r)) []) : evFunc tab [] [] Go.Proofs.Try.f135 [.im false 1 l.length (.ints .u8 l), .v (.int .i64 p), .v (.int .i64 n)] [] k := by
  repeat' (first
 | (with_reducible first | exact True.intro | apply And.intro | apply If_true | apply If_false | apply If_not)
 | ((with_reducible apply VC.mk); (first | trivial | omega | (simp only [inR]; omega) | (exact ⟨rfl, List.prefix_rfl⟩) | (refine ⟨rfl, rfl, rfl, ?_, rfl⟩; (simp; done)) | (focus (repeat' (first | exact True.intro | apply And.intro | rfl | exact Nat.le_of_ble_eq_true rfl)); done) | (simp [inR, Cont.cells]; done) | (simp [inR, Cont.cells]; omega)))
 | ((with_reducible apply If_dec) <;> intro hc <;> (try (exfalso; omega)))
 | ((with_reducible apply If_any) <;> intro hc)
 | ((with_reducible first | apply PF.mk | apply DrawP.mk); (focus kernel_rfl))
 | ((with_reducible apply Same.mk); (focus rfl); (first | exact trivial | exact rfl))
 | (intro cap hcap)
 | ((fail_if_success (with_reducible first | apply Fin.mk | apply CallP.mk | apply LoopP.mk | apply VC.mk | apply falseMk | apply Round.mk | apply LookP.mk | apply RangeP.mk | apply NextP.mk | apply EntryP.mk | apply Eq.symm)); conv => whnf))
  all_goals exact Fin.same (hk _ (by simp; omega))
theorem oin_K : ConOk Go.Proofs.Try.prog 135 (Con.of (List Int × Int × Int) Bool (fun (l, p, n) => [.im false 1 l.length (.ints .u8 l), .v (.int .i64 p), .v (.int .i64 n)]) (fun _ => []) (fun (l, _, _) => l.length ≤ 1099511627776) (fun (l, p, n) r => (r = true ↔ 0 ≤ p ∧ 0 ≤ n ∧ p + n ≤ l.length)) (fun _ r => .v (.bool r)) (fun _ _ => [])) :=
  conOk_rel (T := tab) mix Go.Proofs.Try.func135 (by decide +kernel) (by kernel_rfl) [] [] (fun n => by rw [Go.Proofs.Try.ntmps135]; exact Nat.le_of_ble_eq_true rfl) (fun n z _ _ => ⟨trivial, (fun c hc => by cases hc), Nat.le_refl _⟩) (fun n _ c hc => by cases hc) (fun (l, p, n) k h0 hk => oin_c l p n k h0 (fun r hr => hk r hr))
theorem oin_at {avs : List AV} {H : List Chunk} {k : K} (l : List Int) (p n : Int) (h0 : l.length ≤ 1099511627776) (ha : argsM H [] [.im false 1 l.length (.ints .u8 l), .v (.int .i64 p), .v (.int .i64 n)] avs) (h : ∀ r : Bool, (r = true ↔ 0 ≤ p ∧ 0 ≤ n ∧ p + n ≤ l.length) → k (.v (.bool r)) H) : CallP Go.Proofs.Try.prog 135 avs H k :=
  CallP.mk ⟨_, oin_K.real, Con.spec oin_K, (l, p, n), [], ⟨h0, rfl, trivial, ha⟩, fun r hr => (numK_eq H.length (fun N => k (AV.ren (fren [] N) (.v (.bool r))) (putAll H [] []))).mpr (by simpa [putAll, AV.ren] using h r hr)⟩
set_option maxHeartbeats 4000000 in
theorem put16_c (l : List Int) (c : Nat) (at_ n v : Int) (k : K) (h0 : 0 ≤ at_ ∧ 0 ≤ n ∧ at_ + n ≤ l.length ∧ l.length ≤ 1099511627776) (hk : k (.v (.bool true)) [.blk 5 (.ints .u8 (putB l at_.toNat n.toNat v)) c]) :
    evFunc tab [24] [] Go.Proofs.Try.f126 [.s 0 0 1 l.length c, .v (.int .i64 at_), .v (.int .i64 n), .v (.int .u16 v)] [.blk 5 (.ints .u8 l) c] k := by
  repeat' (first
 | (with_reducible first | exact True.intro | apply And.intro | apply If_true | apply If_false | apply If_not)
 | ((with_reducible apply VC.mk); (first | trivial | omega | (simp only [inR]; omega) | (exact ⟨rfl, List.prefix_rfl⟩) | (refine ⟨rfl, rfl, rfl, ?_, rfl⟩; (simp; done)) | (focus (repeat' (first | exact True.intro | apply And.intro | rfl | exact Nat.le_of_ble_eq_true rfl)); done) | (simp [inR, Cont.cells]; done) | (simp [inR, Cont.cells]; omega)))
 | ((with_reducible apply If_dec) <;> intro hc <;> (try (exfalso; omega)))
 | ((with_reducible apply If_any) <;> intro hc)
 | ((with_reducible first | apply PF.mk | apply DrawP.mk); (focus kernel_rfl))
 | ((with_reducible apply Same.mk); (focus rfl); (first | exact trivial | exact rfl))
 | (intro cap hcap)
 | ((fail_if_success (with_reducible first | apply Fin.mk | apply CallP.mk | apply LoopP.mk | apply VC.mk | apply falseMk | apply Round.mk | apply LookP.mk | apply RangeP.mk | apply NextP.mk | apply EntryP.mk | apply Eq.symm)); conv => whnf))
  refine oin_at l at_ n h0.2.2.2 ⟨⟨by omega, rfl, rfl, by show Cont.ints _ _ = Cont.ints _ _; rw [List.drop_zero, List.take_length], rfl, Nat.one_pos⟩, rfl, rfl, trivial⟩ ?_
  intro r hr
  have hr : r = true := hr.2 (by omega)
  subst hr
  repeat' (first
 | (with_reducible first | exact True.intro | apply And.intro | apply If_true | apply If_false | apply If_not)
 | ((with_reducible apply VC.mk); (first | trivial | omega | (simp only [inR]; omega) | (exact ⟨rfl, List.prefix_rfl⟩) | (refine ⟨rfl, rfl, rfl, ?_, rfl⟩; (simp; done)) | (focus (repeat' (first | exact True.intro | apply And.intro | rfl | exact Nat.le_of_ble_eq_true rfl)); done) | (simp [inR, Cont.cells]; done) | (simp [inR, Cont.cells]; omega)))
 | ((with_reducible apply If_dec) <;> intro hc <;> (try (exfalso; omega)))
 | ((with_reducible apply If_any) <;> intro hc)
 | ((with_reducible first | apply PF.mk | apply DrawP.mk); (focus kernel_rfl))
 | ((with_reducible apply Same.mk); (focus rfl); (first | exact trivial | exact rfl))
 | (intro cap hcap)
 | ((fail_if_success (with_reducible first | apply Fin.mk | apply CallP.mk | apply LoopP.mk | apply VC.mk | apply falseMk | apply Round.mk | apply LookP.mk | apply RangeP.mk | apply NextP.mk | apply EntryP.mk | apply Eq.symm)); conv => whnf))
  refine LoopP.mk ⟨Nat × List Int × Int, fun y => y.1 ≤ n.toNat ∧ y.2.1.length = l.length ∧ putB y.2.1 (at_.toNat + y.1) (n.toNat - y.1) y.2.2 = putB l at_.toNat n.toNat v, fun y => ([(0, .s 0 0 1 l.length c), (1, .v (.int .i64 at_)), (3, .v (.int .u16 y.2.2)), (15, .v (.int .i64 n)), (16, .v (.int .i64 y.1))], [.blk 5 (.ints .u8 y.2.1) c]), fun y => n.toNat - y.1, (0, l, v), ⟨Nat.zero_le _, rfl, rfl⟩, Fit.ren [0] [] rfl rfl trivial ?_ ?_, ?_⟩
  · repeat' (first
 | (with_reducible first | exact True.intro | apply And.intro | apply If_true | apply If_false | apply If_not)
 | ((with_reducible apply VC.mk); (first | trivial | omega | (simp only [inR]; omega) | (exact ⟨rfl, List.prefix_rfl⟩) | (refine ⟨rfl, rfl, rfl, ?_, rfl⟩; (simp; done)) | (focus (repeat' (first | exact True.intro | apply And.intro | rfl | exact Nat.le_of_ble_eq_true rfl)); done) | (simp [inR, Cont.cells]; done) | (simp [inR, Cont.cells]; omega)))
 | ((with_reducible apply If_dec) <;> intro hc <;> (try (exfalso; omega)))
 | ((with_reducible apply If_any) <;> intro hc)
 | ((with_reducible first | apply PF.mk | apply DrawP.mk); (focus kernel_rfl))
 | ((with_reducible apply Same.mk); (focus rfl); (first | exact trivial | exact rfl))
 | (intro cap hcap)
 | ((fail_if_success (with_reducible first | apply Fin.mk | apply CallP.mk | apply LoopP.mk | apply VC.mk | apply falseMk | apply Round.mk | apply LookP.mk | apply RangeP.mk | apply NextP.mk | apply EntryP.mk | apply Eq.symm)); conv => whnf))
  · repeat' (first
 | (with_reducible first | exact True.intro | apply And.intro | apply If_true | apply If_false | apply If_not)
 | ((with_reducible apply VC.mk); (first | trivial | omega | (simp only [inR]; omega) | (exact ⟨rfl, List.prefix_rfl⟩) | (refine ⟨rfl, rfl, rfl, ?_, rfl⟩; (simp; done)) | (focus (repeat' (first | exact True.intro | apply And.intro | rfl | exact Nat.le_of_ble_eq_true rfl)); done) | (simp [inR, Cont.cells]; done) | (simp [inR, Cont.cells]; omega)))
 | ((with_reducible apply If_dec) <;> intro hc <;> (try (exfalso; omega)))
 | ((with_reducible apply If_any) <;> intro hc)
 | ((with_reducible first | apply PF.mk | apply DrawP.mk); (focus kernel_rfl))
 | ((with_reducible apply Same.mk); (focus rfl); (first | exact trivial | exact rfl))
 | (intro cap hcap)
 | ((fail_if_success (with_reducible first | apply Fin.mk | apply CallP.mk | apply LoopP.mk | apply VC.mk | apply falseMk | apply Round.mk | apply LookP.mk | apply RangeP.mk | apply NextP.mk | apply EntryP.mk | apply Eq.symm)); conv => whnf))
  · intro y hy
    obtain ⟨g1, g2, g3⟩ := hy
    repeat' (first
 | (with_reducible first | exact True.intro | apply And.intro | apply If_true | apply If_false | apply If_not)
 | ((with_reducible apply VC.mk); (first | trivial | omega | (simp only [inR]; omega) | (exact ⟨rfl, List.prefix_rfl⟩) | (refine ⟨rfl, rfl, rfl, ?_, rfl⟩; (simp; done)) | (focus (repeat' (first | exact True.intro | apply And.intro | rfl | exact Nat.le_of_ble_eq_true rfl)); done) | (simp [inR, Cont.cells]; done) | (simp [inR, Cont.cells]; omega)))
 | ((with_reducible apply If_dec) <;> intro hc <;> (try (exfalso; omega)))
 | ((with_reducible apply If_any) <;> intro hc)
 | ((with_reducible first | apply PF.mk | apply DrawP.mk); (focus kernel_rfl))
 | ((with_reducible apply Same.mk); (focus rfl); (first | exact trivial | exact rfl))
 | (intro cap hcap)
 | ((fail_if_success (with_reducible first | apply Fin.mk | apply CallP.mk | apply LoopP.mk | apply VC.mk | apply falseMk | apply Round.mk | apply LookP.mk | apply RangeP.mk | apply NextP.mk | apply EntryP.mk | apply Eq.symm)); conv => whnf))
    · refine Round.mk ⟨(y.1 + 1, y.2.1.set (at_.toNat + y.1) (y.2.2 % 256), y.2.2 / 256), ⟨by show y.1 + 1 ≤ _; omega, by show (y.2.1.set _ _).length = _; rw [List.length_set, g2], ?_⟩, by show n.toNat - (y.1 + 1) < n.toNat - y.1; omega, Fit.ren [0] [] rfl rfl trivial ?_ ?_⟩
      · rw [← g3, show n.toNat - y.1 = (n.toNat - (y.1 + 1)) + 1 by omega]
        rfl
      · refine ⟨⟨VC.mk ⟨rfl, rfl⟩, VC.mk ⟨rfl, ?_⟩⟩, trivial⟩
        rw [wu8, show 0 + (at_ + (y.1 : Int)).toNat = at_.toNat + y.1 by omega]
        exact List.prefix_rfl
      · repeat' (first
 | (with_reducible first | exact True.intro | apply And.intro | apply If_true | apply If_false | apply If_not)
 | ((with_reducible apply VC.mk); (first | trivial | omega | (simp only [inR]; omega) | (exact ⟨rfl, List.prefix_rfl⟩) | (refine ⟨rfl, rfl, rfl, ?_, rfl⟩; (simp; done)) | (focus (repeat' (first | exact True.intro | apply And.intro | rfl | exact Nat.le_of_ble_eq_true rfl)); done) | (simp [inR, Cont.cells]; done) | (simp [inR, Cont.cells]; omega)))
 | ((with_reducible apply If_dec) <;> intro hc <;> (try (exfalso; omega)))
 | ((with_reducible apply If_any) <;> intro hc)
 | ((with_reducible first | apply PF.mk | apply DrawP.mk); (focus kernel_rfl))
 | ((with_reducible apply Same.mk); (focus rfl); (first | exact trivial | exact rfl))
 | (intro cap hcap)
 | ((fail_if_success (with_reducible first | apply Fin.mk | apply CallP.mk | apply LoopP.mk | apply VC.mk | apply falseMk | apply Round.mk | apply LookP.mk | apply RangeP.mk | apply NextP.mk | apply EntryP.mk | apply Eq.symm)); conv => whnf))
    · have e : n.toNat - y.1 = 0 := by omega
      rw [e] at g3
      have g3 : y.2.1 = putB l at_.toNat n.toNat v := g3
      rw [← g3] at hk
      exact Fin.same hk
theorem put16_K : ConOk Go.Proofs.Try.prog 126 (Con.fn (List Int × Nat × Int × Int × Int) (fun (l, c, at_, n, v) => [.s 0 0 1 l.length c, .v (.int .i64 at_), .v (.int .i64 n), .v (.int .u16 v)]) (fun (l, c, _, _, _) => [.blk 5 (.ints .u8 l) c]) (fun (l, c, at_, n, v) => 0 ≤ at_ ∧ 0 ≤ n ∧ at_ + n ≤ l.length ∧ l.length ≤ 1099511627776) (fun _ => .v (.bool true)) (fun (l, c, at_, n, v) => [.blk 5 (.ints .u8 (putB l at_.toNat n.toNat v)) c])) :=
  conOk_fn (T := tab) mix Go.Proofs.Try.func126 (by decide +kernel) (by kernel_rfl) [24] [] (fun n => by rw [Go.Proofs.Try.ntmps126]; exact Nat.le_of_ble_eq_true rfl) (fun (l, c, at_, n, v) _ => ⟨trivial, (fun x hx => by simp at hx; subst hx; exact .blk trivial), Nat.le_refl _⟩) (fun (l, c, at_, n, v) _ x hx => by simp at hx; subst hx; trivial) (fun (l, c, at_, n, v) k h0 hk => put16_c l c at_ n v k h0 hk)
theorem put16_at {avs : List AV} {H : List Chunk} {k : K} (l : List Int) (c : Nat) (at_ n v : Int) (i : Nat) (h0 : 0 ≤ at_ ∧ 0 ≤ n ∧ at_ + n ≤ l.length ∧ l.length ≤ 1099511627776) (hc : nth H i = some (.blk 5 (.ints .u8 l) c)) (ha : argsM H [i] [.s 0 0 1 l.length c, .v (.int .i64 at_), .v (.int .i64 n), .v (.int .u16 v)] avs)
    (h : k (.v (.bool true)) (H.set i (.blk 5 (.ints .u8 (putB l at_.toNat n.toNat v)) c))) : CallP Go.Proofs.Try.prog 126 avs H k :=
  CallP.mk ⟨_, put16_K.real, Con.spec put16_K, (l, c, at_, n, v), [i], ⟨h0, rfl, ⟨hc, trivial⟩, ha⟩, (numK_eq H.length (fun N => k (AV.ren (fren [i] N) (.v (.bool true))) (putAll H [i] [Chunk.ren (fren [i] N) (.blk 5 (.ints .u8 (putB l at_.toNat n.toNat v)) c)]))).mpr (by simpa [putAll, AV.ren, Chunk.ren, Cont.ren] using h)⟩
theorem Put16_c (l : List Int) (c : Nat) (at_ v : Int) (k : K) (h0 : 0 ≤ at_ ∧ at_ + 2 ≤ l.length ∧ l.length ≤ 1099511627776) (hk : k (.v (.bool true)) [.blk 5 (.ints .u8 (putB l at_.toNat 2 v)) c]) :
    evFunc tab [] [] Go.Proofs.Try.f104 [.s 0 0 1 l.length c, .v (.int .i64 at_), .v (.int .u16 v)] [.blk 5 (.ints .u8 l) c] k := by
  repeat' (first
 | (with_reducible first | exact True.intro | apply And.intro | apply If_true | apply If_false | apply If_not)
 | ((with_reducible apply VC.mk); (first | trivial | omega | (simp only [inR]; omega) | (exact ⟨rfl, List.prefix_rfl⟩) | (refine ⟨rfl, rfl, rfl, ?_, rfl⟩; (simp; done)) | (focus (repeat' (first | exact True.intro | apply And.intro | rfl | exact Nat.le_of_ble_eq_true rfl)); done) | (simp [inR, Cont.cells]; done) | (simp [inR, Cont.cells]; omega)))
 | ((with_reducible apply If_dec) <;> intro hc <;> (try (exfalso; omega)))
 | ((with_reducible apply If_any) <;> intro hc)
 | ((with_reducible first | apply PF.mk | apply DrawP.mk); (focus kernel_rfl))
 | ((with_reducible apply Same.mk); (focus rfl); (first | exact trivial | exact rfl))
 | (intro cap hcap)
 | ((fail_if_success (with_reducible first | apply Fin.mk | apply CallP.mk | apply LoopP.mk | apply VC.mk | apply falseMk | apply Round.mk | apply LookP.mk | apply RangeP.mk | apply NextP.mk | apply EntryP.mk | apply Eq.symm)); conv => whnf))
  refine put16_at l c at_ 2 v 0 (by omega) rfl ⟨rfl, rfl, rfl, rfl, trivial⟩ ?_
  repeat' (first
 | (with_reducible first | exact True.intro | apply And.intro | apply If_true | apply If_false | apply If_not)
 | ((with_reducible apply VC.mk); (first | trivial | omega | (simp only [inR]; omega) | (exact ⟨rfl, List.prefix_rfl⟩) | (refine ⟨rfl, rfl, rfl, ?_, rfl⟩; (simp; done)) | (focus (repeat' (first | exact True.intro | apply And.intro | rfl | exact Nat.le_of_ble_eq_true rfl)); done) | (simp [inR, Cont.cells]; done) | (simp [inR, Cont.cells]; omega)))
 | ((with_reducible apply If_dec) <;> intro hc <;> (try (exfalso; omega)))
 | ((with_reducible apply If_any) <;> intro hc)
 | ((with_reducible first | apply PF.mk | apply DrawP.mk); (focus kernel_rfl))
 | ((with_reducible apply Same.mk); (focus rfl); (first | exact trivial | exact rfl))
 | (intro cap hcap)
 | ((fail_if_success (with_reducible first | apply Fin.mk | apply CallP.mk | apply LoopP.mk | apply VC.mk | apply falseMk | apply Round.mk | apply LookP.mk | apply RangeP.mk | apply NextP.mk | apply EntryP.mk | apply Eq.symm)); conv => whnf))
  exact Fin.same hk
theorem Put16_K : ConOk Go.Proofs.Try.prog 104 (Con.fn (List Int × Nat × Int × Int) (fun (l, c, at_, v) => [.s 0 0 1 l.length c, .v (.int .i64 at_), .v (.int .u16 v)]) (fun (l, c, _, _) => [.blk 5 (.ints .u8 l) c]) (fun (l, c, at_, v) => 0 ≤ at_ ∧ at_ + 2 ≤ l.length ∧ l.length ≤ 1099511627776) (fun _ => .v (.bool true)) (fun (l, c, at_, v) => [.blk 5 (.ints .u8 (putB l at_.toNat 2 v)) c])) :=
  conOk_fn (T := tab) mix Go.Proofs.Try.func104 (by decide +kernel) (by kernel_rfl) [] [] (fun n => by rw [Go.Proofs.Try.ntmps104]; exact Nat.le_of_ble_eq_true rfl) (fun (l, c, at_, v) _ => ⟨trivial, (fun x hx => by simp at hx; subst hx; exact .blk trivial), Nat.le_refl _⟩) (fun (l, c, at_, v) _ x hx => by simp at hx; subst hx; trivial) (fun (l, c, at_, v) k h0 hk => Put16_c l c at_ v k h0 hk)
theorem Put16_at {avs : List AV} {H : List Chunk} {k : K} (l : List Int) (c : Nat) (at_ v : Int) (i : Nat) (h0 : 0 ≤ at_ ∧ at_ + 2 ≤ l.length ∧ l.length ≤ 1099511627776) (hc : nth H i = some (.blk 5 (.ints .u8 l) c)) (ha : argsM H [i] [.s 0 0 1 l.length c, .v (.int .i64 at_), .v (.int .u16 v)] avs)
    (h : k (.v (.bool true)) (H.set i (.blk 5 (.ints .u8 (putB l at_.toNat 2 v)) c))) : CallP Go.Proofs.Try.prog 104 avs H k :=
  CallP.mk ⟨_, Put16_K.real, Con.spec Put16_K, (l, c, at_, v), [i], ⟨h0, rfl, ⟨hc, trivial⟩, ha⟩, (numK_eq H.length (fun N => k (AV.ren (fren [i] N) (.v (.bool true))) (putAll H [i] [Chunk.ren (fren [i] N) (.blk 5 (.ints .u8 (putB l at_.toNat 2 v)) c)]))).mpr (by simpa [putAll, AV.ren, Chunk.ren, Cont.ren] using h)⟩
/-- What is read: a number, or none. -/
def got16 (l : List Int) (at_ : Int) (v : Int) (b : Bool) : Prop := (0 ≤ at_ ∧ at_ + 2 ≤ l.length ∧ b = true ∧ v = leV ((l.drop at_.toNat).take 2)) ∨ (¬ (0 ≤ at_ ∧ at_ + 2 ≤ l.length) ∧ b = false ∧ v = 0)
set_option maxHeartbeats 4000000 in
theorem little16_c (l : List Int) (at_ : Int) (k : K) (h0 : l.length ≤ 1099511627776 ∧ B8 l ∧ at_ ≤ 1099511627776) (hk : ∀ v b, got16 l at_ v b → k (.tup [.v (.int .u16 v), .v (.bool b)]) []) :
    evFunc tab [] [] Go.Proofs.Try.f124 [.im false 1 l.length (.ints .u8 l), .v (.int .i64 at_), .v (.int .i64 2)] [] k := by
  repeat' (first
 | (with_reducible first | exact True.intro | apply And.intro | apply If_true | apply If_false | apply If_not)
 | ((with_reducible apply VC.mk); (first | trivial | omega | (simp only [inR]; omega) | (exact ⟨rfl, List.prefix_rfl⟩) | (refine ⟨rfl, rfl, rfl, ?_, rfl⟩; (simp; done)) | (focus (repeat' (first | exact True.intro | apply And.intro | rfl | exact Nat.le_of_ble_eq_true rfl)); done) | (simp [inR, Cont.cells]; done) | (simp [inR, Cont.cells]; omega)))
 | ((with_reducible apply If_dec) <;> intro hc <;> (try (exfalso; omega)))
 | ((with_reducible apply If_any) <;> intro hc)
 | ((with_reducible first | apply PF.mk | apply DrawP.mk); (focus kernel_rfl))
 | ((with_reducible apply Same.mk); (focus rfl); (first | exact trivial | exact rfl))
 | (intro cap hcap)
 | ((fail_if_success (with_reducible first | apply Fin.mk | apply CallP.mk | apply LoopP.mk | apply VC.mk | apply falseMk | apply Round.mk | apply LookP.mk | apply RangeP.mk | apply NextP.mk | apply EntryP.mk | apply Eq.symm)); conv => whnf))
  refine oin_at l at_ 2 h0.1 ⟨⟨rfl, rfl, rfl⟩, rfl, rfl, trivial⟩ ?_
  intro r hr
  by_cases hin : 0 ≤ at_ ∧ at_ + 2 ≤ l.length
  case neg =>
    have hr : r = false := by
      cases r
      · rfl
      · exact absurd (hr.1 rfl) (by omega)
    subst hr
    repeat' (first
 | (with_reducible first | exact True.intro | apply And.intro | apply If_true | apply If_false | apply If_not)
 | ((with_reducible apply VC.mk); (first | trivial | omega | (simp only [inR]; omega) | (exact ⟨rfl, List.prefix_rfl⟩) | (refine ⟨rfl, rfl, rfl, ?_, rfl⟩; (simp; done)) | (focus (repeat' (first | exact True.intro | apply And.intro | rfl | exact Nat.le_of_ble_eq_true rfl)); done) | (simp [inR, Cont.cells]; done) | (simp [inR, Cont.cells]; omega)))
 | ((with_reducible apply If_dec) <;> intro hc <;> (try (exfalso; omega)))
 | ((with_reducible apply If_any) <;> intro hc)
 | ((with_reducible first | apply PF.mk | apply DrawP.mk); (focus kernel_rfl))
 | ((with_reducible apply Same.mk); (focus rfl); (first | exact trivial | exact rfl))
 | (intro cap hcap)
 | ((fail_if_success (with_reducible first | apply Fin.mk | apply CallP.mk | apply LoopP.mk | apply VC.mk | apply falseMk | apply Round.mk | apply LookP.mk | apply RangeP.mk | apply NextP.mk | apply EntryP.mk | apply Eq.symm)); conv => whnf))
    exact Fin.same (hk 0 false (.inr ⟨hin, rfl, rfl⟩))
  have hr : r = true := hr.2 (by omega)
  subst hr
  repeat' (first
 | (with_reducible first | exact True.intro | apply And.intro | apply If_true | apply If_false | apply If_not)
 | ((with_reducible apply VC.mk); (first | trivial | omega | (simp only [inR]; omega) | (exact ⟨rfl, List.prefix_rfl⟩) | (refine ⟨rfl, rfl, rfl, ?_, rfl⟩; (simp; done)) | (focus (repeat' (first | exact True.intro | apply And.intro | rfl | exact Nat.le_of_ble_eq_true rfl)); done) | (simp [inR, Cont.cells]; done) | (simp [inR, Cont.cells]; omega)))
 | ((with_reducible apply If_dec) <;> intro hc <;> (try (exfalso; omega)))
 | ((with_reducible apply If_any) <;> intro hc)
 | ((with_reducible first | apply PF.mk | apply DrawP.mk); (focus kernel_rfl))
 | ((with_reducible apply Same.mk); (focus rfl); (first | exact trivial | exact rfl))
 | (intro cap hcap)
 | ((fail_if_success (with_reducible first | apply Fin.mk | apply CallP.mk | apply LoopP.mk | apply VC.mk | apply falseMk | apply Round.mk | apply LookP.mk | apply RangeP.mk | apply NextP.mk | apply EntryP.mk | apply Eq.symm)); conv => whnf))
  refine LoopP.mk ⟨Nat × Int, fun y => y.1 ≤ 2 ∧ y.2 = leV ((l.drop (at_.toNat + (2 - y.1))).take y.1), fun y => ([(0, .im false 1 l.length (.ints .u8 l)), (1, .v (.int .i64 at_)), (8, .v (.int .u16 y.2)), (9, .v (.int .i64 (2 - 1 - (y.1 : Int))))], []), fun y => 2 - y.1, (0, 0), ⟨Nat.zero_le _, by simp [leV]⟩, Fit.ren [] [] rfl rfl trivial trivial ?_, ?_⟩
  · repeat' (first
 | (with_reducible first | exact True.intro | apply And.intro | apply If_true | apply If_false | apply If_not)
 | ((with_reducible apply VC.mk); (first | trivial | omega | (simp only [inR]; omega) | (exact ⟨rfl, List.prefix_rfl⟩) | (refine ⟨rfl, rfl, rfl, ?_, rfl⟩; (simp; done)) | (focus (repeat' (first | exact True.intro | apply And.intro | rfl | exact Nat.le_of_ble_eq_true rfl)); done) | (simp [inR, Cont.cells]; done) | (simp [inR, Cont.cells]; omega)))
 | ((with_reducible apply If_dec) <;> intro hc <;> (try (exfalso; omega)))
 | ((with_reducible apply If_any) <;> intro hc)
 | ((with_reducible first | apply PF.mk | apply DrawP.mk); (focus kernel_rfl))
 | ((with_reducible apply Same.mk); (focus rfl); (first | exact trivial | exact rfl))
 | (intro cap hcap)
 | ((fail_if_success (with_reducible first | apply Fin.mk | apply CallP.mk | apply LoopP.mk | apply VC.mk | apply falseMk | apply Round.mk | apply LookP.mk | apply RangeP.mk | apply NextP.mk | apply EntryP.mk | apply Eq.symm)); conv => whnf))
  · intro y hy
    obtain ⟨g1, g2⟩ := hy
    have hb := h0.2.1.getD (at_.toNat + (2 - (y.1 + 1)))
    have hs : B8 ((l.drop (at_.toNat + (2 - y.1))).take y.1) := (h0.2.1.drop _).take _
    have hl1 := leV_nonneg hs
    have hl2 := leV_lt hs
    have hll : ((l.drop (at_.toNat + (2 - y.1))).take y.1).length = y.1 := by rw [List.length_take, List.length_drop]; omega
    rw [hll] at hl2
    rw [← g2] at hl1 hl2
    have e0 : (at_ + (2 - 1 - (y.1 : Int))).toNat = 0 + (at_.toNat + (2 - (y.1 + 1))) ∨ ¬ (0 ≤ (2 : Int) - 1 - (y.1 : Int)) := by omega
    repeat' (first
 | (with_reducible first | exact True.intro | apply And.intro | apply If_true | apply If_false | apply If_not)
 | ((with_reducible apply VC.mk); (first | trivial | omega | (simp only [inR]; omega) | (exact ⟨rfl, List.prefix_rfl⟩) | (refine ⟨rfl, rfl, rfl, ?_, rfl⟩; (simp; done)) | (focus (repeat' (first | exact True.intro | apply And.intro | rfl | exact Nat.le_of_ble_eq_true rfl)); done) | (simp [inR, Cont.cells]; done) | (simp [inR, Cont.cells]; omega)))
 | ((with_reducible apply If_dec) <;> intro hc <;> (try (exfalso; omega)))
 | ((with_reducible apply If_any) <;> intro hc)
 | ((with_reducible first | apply PF.mk | apply DrawP.mk); (focus kernel_rfl))
 | ((with_reducible apply Same.mk); (focus rfl); (first | exact trivial | exact rfl))
 | (intro cap hcap)
 | ((fail_if_success (with_reducible first | apply Fin.mk | apply CallP.mk | apply LoopP.mk | apply VC.mk | apply falseMk | apply Round.mk | apply LookP.mk | apply RangeP.mk | apply NextP.mk | apply EntryP.mk | apply Eq.symm)); conv => whnf))
    · rcases e0 with e0 | e0
      · rw [e0, Nat.zero_add]; exact VC.mk (by simp only [inR]; omega)
      · exact absurd hc e0
    · rcases e0 with e0 | e0
      case inr => exact absurd hc e0
      rw [Nat.zero_add] at e0
      generalize hbb : l.getD (at_.toNat + (2 - (y.1 + 1))) 0 = bb at *
      have hp : (256 : Int) ^ y.1 ≤ 256 ^ (2 - 1) := pow256_le (by omega)
      have hp2 : (256 : Int) ^ (2 - 1) = 256 := by decide
      have hor := or16 y.2 bb hl1 (by omega) hb.1 hb.2
      refine Round.mk ⟨(y.1 + 1, y.2 * 256 + bb), ⟨by show y.1 + 1 ≤ _; omega, ?_⟩, by show 2 - (y.1 + 1) < 2 - y.1; omega, Fit.ren [] [] rfl rfl trivial trivial ?_⟩
      · have hlt : at_.toNat + (2 - (y.1 + 1)) < l.length := by omega
        rw [List.drop_eq_getElem_cons hlt, List.take_succ_cons, leV, show at_.toNat + (2 - (y.1 + 1)) + 1 = at_.toNat + (2 - y.1) by omega, ← g2, ← hbb, List.getD_eq_getElem?_getD, List.getElem?_eq_getElem hlt]
        show y.2 * 256 + l[at_.toNat + (2 - (y.1 + 1))] = l[at_.toNat + (2 - (y.1 + 1))] + 256 * y.2
        omega
      · repeat' (first
 | (with_reducible first | exact True.intro | apply And.intro | apply If_true | apply If_false | apply If_not)
 | ((with_reducible apply VC.mk); (first | trivial | omega | (simp only [inR]; omega) | (exact ⟨rfl, List.prefix_rfl⟩) | (refine ⟨rfl, rfl, rfl, ?_, rfl⟩; (simp; done)) | (focus (repeat' (first | exact True.intro | apply And.intro | rfl | exact Nat.le_of_ble_eq_true rfl)); done) | (simp [inR, Cont.cells]; done) | (simp [inR, Cont.cells]; omega)))
 | ((with_reducible apply If_dec) <;> intro hc <;> (try (exfalso; omega)))
 | ((with_reducible apply If_any) <;> intro hc)
 | ((with_reducible first | apply PF.mk | apply DrawP.mk); (focus kernel_rfl))
 | ((with_reducible apply Same.mk); (focus rfl); (first | exact trivial | exact rfl))
 | (intro cap hcap)
 | ((fail_if_success (with_reducible first | apply Fin.mk | apply CallP.mk | apply LoopP.mk | apply VC.mk | apply falseMk | apply Round.mk | apply LookP.mk | apply RangeP.mk | apply NextP.mk | apply EntryP.mk | apply Eq.symm)); conv => whnf))
        · refine VC.mk ?_
          rw [e0, hbb]
          exact congrArg (Value.int .u16) hor
        all_goals (refine VC.mk ?_; exact congrArg (Value.int .i64) (by omega))
    · refine Fin.same (hk _ _ (.inl ⟨hin.1, hin.2, rfl, ?_⟩))
      rw [g2, show y.1 = 2 by omega]
      simp
theorem little16_K : ConOk Go.Proofs.Try.prog 124 (Con.of (List Int × Int) (Int × Bool) (fun (l, at_) => [.im false 1 l.length (.ints .u8 l), .v (.int .i64 at_), .v (.int .i64 2)]) (fun _ => []) (fun (l, at_) => l.length ≤ 1099511627776 ∧ B8 l ∧ at_ ≤ 1099511627776) (fun (l, at_) (v, b) => got16 l at_ v b) (fun _ (v, b) => .tup [.v (.int .u16 v), .v (.bool b)]) (fun _ _ => [])) :=
  conOk_rel (T := tab) mix Go.Proofs.Try.func124 (by decide +kernel) (by kernel_rfl) [] [] (fun n => by rw [Go.Proofs.Try.ntmps124]; exact Nat.le_of_ble_eq_true rfl) (fun n z _ _ => ⟨⟨trivial, trivial, trivial⟩, (fun c hc => by cases hc), Nat.le_refl _⟩) (fun n _ c hc => by cases hc) (fun (l, at_) k h0 hk => little16_c l at_ k h0 (fun v b hr => hk (v, b) hr))
theorem little16_at {avs : List AV} {H : List Chunk} {k : K} (l : List Int) (at_ : Int) (h0 : l.length ≤ 1099511627776 ∧ B8 l ∧ at_ ≤ 1099511627776) (ha : argsM H [] [.im false 1 l.length (.ints .u8 l), .v (.int .i64 at_), .v (.int .i64 2)] avs) (h : ∀ v b, got16 l at_ v b → k (.tup [.v (.int .u16 v), .v (.bool b)]) H) : CallP Go.Proofs.Try.prog 124 avs H k :=
  CallP.mk ⟨_, little16_K.real, Con.spec little16_K, (l, at_), [], ⟨h0, rfl, trivial, ha⟩, fun (v, b) hr => (numK_eq H.length (fun N => k (AV.ren (fren [] N) (.tup [.v (.int .u16 v), .v (.bool b)])) (putAll H [] []))).mpr (by simpa [putAll, AV.ren, rens] using h v b hr)⟩
theorem U16_c (l : List Int) (at_ : Int) (k : K) (h0 : l.length ≤ 1099511627776 ∧ B8 l ∧ at_ ≤ 1099511627776) (hk : ∀ v b, got16 l at_ v b → k (.tup [.v (.int .u16 v), .v (.bool b)]) []) :
    evFunc tab [] [] Go.Proofs.Try.f101 [.im false 1 l.length (.ints .u8 l), .v (.int .i64 at_)] [] k := by
  repeat' (first
 | (with_reducible first | exact True.intro | apply And.intro | apply If_true | apply If_false | apply If_not)
 | ((with_reducible apply VC.mk); (first | trivial | omega | (simp only [inR]; omega) | (exact ⟨rfl, List.prefix_rfl⟩) | (refine ⟨rfl, rfl, rfl, ?_, rfl⟩; (simp; done)) | (focus (repeat' (first | exact True.intro | apply And.intro | rfl | exact Nat.le_of_ble_eq_true rfl)); done) | (simp [inR, Cont.cells]; done) | (simp [inR, Cont.cells]; omega)))
 | ((with_reducible apply If_dec) <;> intro hc <;> (try (exfalso; omega)))
 | ((with_reducible apply If_any) <;> intro hc)
 | ((with_reducible first | apply PF.mk | apply DrawP.mk); (focus kernel_rfl))
 | ((with_reducible apply Same.mk); (focus rfl); (first | exact trivial | exact rfl))
 | (intro cap hcap)
 | ((fail_if_success (with_reducible first | apply Fin.mk | apply CallP.mk | apply LoopP.mk | apply VC.mk | apply falseMk | apply Round.mk | apply LookP.mk | apply RangeP.mk | apply NextP.mk | apply EntryP.mk | apply Eq.symm)); conv => whnf))
  refine little16_at l at_ h0 ⟨⟨rfl, rfl, rfl⟩, rfl, rfl, trivial⟩ ?_
  intro v b hr
  repeat' (first
 | (with_reducible first | exact True.intro | apply And.intro | apply If_true | apply If_false | apply If_not)
 | ((with_reducible apply VC.mk); (first | trivial | omega | (simp only [inR]; omega) | (exact ⟨rfl, List.prefix_rfl⟩) | (refine ⟨rfl, rfl, rfl, ?_, rfl⟩; (simp; done)) | (focus (repeat' (first | exact True.intro | apply And.intro | rfl | exact Nat.le_of_ble_eq_true rfl)); done) | (simp [inR, Cont.cells]; done) | (simp [inR, Cont.cells]; omega)))
 | ((with_reducible apply If_dec) <;> intro hc <;> (try (exfalso; omega)))
 | ((with_reducible apply If_any) <;> intro hc)
 | ((with_reducible first | apply PF.mk | apply DrawP.mk); (focus kernel_rfl))
 | ((with_reducible apply Same.mk); (focus rfl); (first | exact trivial | exact rfl))
 | (intro cap hcap)
 | ((fail_if_success (with_reducible first | apply Fin.mk | apply CallP.mk | apply LoopP.mk | apply VC.mk | apply falseMk | apply Round.mk | apply LookP.mk | apply RangeP.mk | apply NextP.mk | apply EntryP.mk | apply Eq.symm)); conv => whnf))
  exact Fin.same (hk v b hr)
theorem U16_K : ConOk Go.Proofs.Try.prog 101 (Con.of (List Int × Int) (Int × Bool) (fun (l, at_) => [.im false 1 l.length (.ints .u8 l), .v (.int .i64 at_)]) (fun _ => []) (fun (l, at_) => l.length ≤ 1099511627776 ∧ B8 l ∧ at_ ≤ 1099511627776) (fun (l, at_) (v, b) => got16 l at_ v b) (fun _ (v, b) => .tup [.v (.int .u16 v), .v (.bool b)]) (fun _ _ => [])) :=
  conOk_rel (T := tab) mix Go.Proofs.Try.func101 (by decide +kernel) (by kernel_rfl) [] [] (fun n => by rw [Go.Proofs.Try.ntmps101]; exact Nat.le_of_ble_eq_true rfl) (fun n z _ _ => ⟨⟨trivial, trivial, trivial⟩, (fun c hc => by cases hc), Nat.le_refl _⟩) (fun n _ c hc => by cases hc) (fun (l, at_) k h0 hk => U16_c l at_ k h0 (fun v b hr => hk (v, b) hr))
theorem U16_at {avs : List AV} {H : List Chunk} {k : K} (l : List Int) (at_ : Int) (h0 : l.length ≤ 1099511627776 ∧ B8 l ∧ at_ ≤ 1099511627776) (ha : argsM H [] [.im false 1 l.length (.ints .u8 l), .v (.int .i64 at_)] avs) (h : ∀ v b, got16 l at_ v b → k (.tup [.v (.int .u16 v), .v (.bool b)]) H) : CallP Go.Proofs.Try.prog 101 avs H k :=
  CallP.mk ⟨_, U16_K.real, Con.spec U16_K, (l, at_), [], ⟨h0, rfl, trivial, ha⟩, fun (v, b) hr => (numK_eq H.length (fun N => k (AV.ren (fren [] N) (.tup [.v (.int .u16 v), .v (.bool b)])) (putAll H [] []))).mpr (by simpa [putAll, AV.ren, rens] using h v b hr)⟩
end Go.Proofs.Ytjccknmgmommcaa.Sx

