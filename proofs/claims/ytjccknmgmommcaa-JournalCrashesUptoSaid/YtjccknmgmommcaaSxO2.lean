import Derived.Test.YtjccknmgmommcaaSxO1
set_option linter.unusedVariables false
set_option linter.unusedSimpArgs false
set_option maxRecDepth 10000
namespace Go.Proofs.Ytjccknmgmommcaa.Sx
open Go.RowKit Go.Proofs.Ytjccknmgmommcaa.Sx.Tb
/-! ### Bytes: a part, noughts, sums -/
theorem oslice_c (l : List Int) (p n : Int) (k : K) (h0 : l.length ≤ 1099511627776 ∧ p ≤ 1099511627776 ∧ n ≤ 1099511627776)
    (hk : ∀ (m : List Int) (b : Bool), ((0 ≤ p ∧ 0 ≤ n ∧ p + n ≤ l.length) ∧ b = true ∧ m = (l.drop p.toNat).take n.toNat ∨ ¬ (0 ≤ p ∧ 0 ≤ n ∧ p + n ≤ l.length) ∧ b = false ∧ m = []) → k (.tup [.im true 1 m.length (.ints .u8 m), .v (.bool b)]) []) :
    evFunc tab [] [] Go.Proofs.Try.f133 [.im false 1 l.length (.ints .u8 l), .v (.int .i64 p), .v (.int .i64 n)] [] k := by
  repeat' (first
 | (with_reducible first | exact True.intro | apply And.intro | apply If_true | apply If_false | apply If_not)
 | ((with_reducible apply VC.mk); (first | trivial | omega | (simp only [inR]; omega) | (exact ⟨rfl, List.prefix_rfl⟩) | (refine ⟨rfl, rfl, rfl, ?_, rfl⟩; (simp; done)) | (focus (repeat' (first | exact True.intro | apply And.intro | rfl | exact Nat.le_of_ble_eq_true rfl)); done) | (simp [inR, Cont.cells]; done) | (simp [inR, Cont.cells]; omega)))
 | ((with_reducible apply If_dec) <;> intro hc <;> (try (exfalso; omega)))
 | ((with_reducible apply If_any) <;> intro hc)
 | ((with_reducible first | apply PF.mk | apply DrawP.mk); (focus kernel_rfl))
 | ((with_reducible apply Same.mk); (focus rfl); (first | exact trivial | exact rfl))
 | (intro cap hcap)
 | ((fail_if_success (with_reducible first | apply Fin.mk | apply CallP.mk | apply LoopP.mk | apply VC.mk | apply falseMk | apply Round.mk | apply Eq.symm)); conv => whnf))
  refine oin_at l p n h0.1 ⟨⟨rfl, rfl, rfl⟩, rfl, rfl, trivial⟩ ?_
  intro r hr
  by_cases hin : 0 ≤ p ∧ 0 ≤ n ∧ p + n ≤ l.length
  · have hr : r = true := hr.2 hin
    subst hr
    repeat' (first
 | (with_reducible first | exact True.intro | apply And.intro | apply If_true | apply If_false | apply If_not)
 | ((with_reducible apply VC.mk); (first | trivial | omega | (simp only [inR]; omega) | (exact ⟨rfl, List.prefix_rfl⟩) | (refine ⟨rfl, rfl, rfl, ?_, rfl⟩; (simp; done)) | (focus (repeat' (first | exact True.intro | apply And.intro | rfl | exact Nat.le_of_ble_eq_true rfl)); done) | (simp [inR, Cont.cells]; done) | (simp [inR, Cont.cells]; omega)))
 | ((with_reducible apply If_dec) <;> intro hc <;> (try (exfalso; omega)))
 | ((with_reducible apply If_any) <;> intro hc)
 | ((with_reducible first | apply PF.mk | apply DrawP.mk); (focus kernel_rfl))
 | ((with_reducible apply Same.mk); (focus rfl); (first | exact trivial | exact rfl))
 | (intro cap hcap)
 | ((fail_if_success (with_reducible first | apply Fin.mk | apply CallP.mk | apply LoopP.mk | apply VC.mk | apply falseMk | apply Round.mk | apply Eq.symm)); conv => whnf))
    refine Fin.ren [] [0] (.tup [.im true 1 ((l.drop p.toNat).take n.toNat).length (.ints .u8 ((l.drop p.toNat).take n.toNat)), .v (.bool true)]) [] rfl rfl ⟨trivial, trivial⟩ trivial ?_ (hk _ true (.inl ⟨hin, rfl, rfl⟩))
    repeat' (first
 | (with_reducible first | exact True.intro | apply And.intro | apply If_true | apply If_false | apply If_not)
 | ((with_reducible apply VC.mk); (first | trivial | omega | (simp only [inR]; omega) | (exact ⟨rfl, List.prefix_rfl⟩) | (refine ⟨rfl, rfl, rfl, ?_, rfl⟩; (simp; done)) | (focus (repeat' (first | exact True.intro | apply And.intro | rfl | exact Nat.le_of_ble_eq_true rfl)); done) | (simp [inR, Cont.cells]; done) | (simp [inR, Cont.cells]; omega)))
 | ((with_reducible apply If_dec) <;> intro hc <;> (try (exfalso; omega)))
 | ((with_reducible apply If_any) <;> intro hc)
 | ((with_reducible first | apply PF.mk | apply DrawP.mk); (focus kernel_rfl))
 | ((with_reducible apply Same.mk); (focus rfl); (first | exact trivial | exact rfl))
 | (intro cap hcap)
 | ((fail_if_success (with_reducible first | apply Fin.mk | apply CallP.mk | apply LoopP.mk | apply VC.mk | apply falseMk | apply Round.mk | apply Eq.symm)); conv => whnf))
    · refine VC.mk ⟨rfl, ?_⟩
      rw [List.drop_zero, List.take_take, Nat.min_self, show (p + n).toNat - p.toNat = n.toNat by omega]
  · have hr : r = false := by
      cases r
      · rfl
      · exact absurd (hr.1 rfl) hin
    subst hr
    repeat' (first
 | (with_reducible first | exact True.intro | apply And.intro | apply If_true | apply If_false | apply If_not)
 | ((with_reducible apply VC.mk); (first | trivial | omega | (simp only [inR]; omega) | (exact ⟨rfl, List.prefix_rfl⟩) | (refine ⟨rfl, rfl, rfl, ?_, rfl⟩; (simp; done)) | (focus (repeat' (first | exact True.intro | apply And.intro | rfl | exact Nat.le_of_ble_eq_true rfl)); done) | (simp [inR, Cont.cells]; done) | (simp [inR, Cont.cells]; omega)))
 | ((with_reducible apply If_dec) <;> intro hc <;> (try (exfalso; omega)))
 | ((with_reducible apply If_any) <;> intro hc)
 | ((with_reducible first | apply PF.mk | apply DrawP.mk); (focus kernel_rfl))
 | ((with_reducible apply Same.mk); (focus rfl); (first | exact trivial | exact rfl))
 | (intro cap hcap)
 | ((fail_if_success (with_reducible first | apply Fin.mk | apply CallP.mk | apply LoopP.mk | apply VC.mk | apply falseMk | apply Round.mk | apply Eq.symm)); conv => whnf))
    refine Fin.ren [] [] (.tup [.im true 1 0 (.ints .u8 []), .v (.bool false)]) [] rfl rfl trivial trivial ?_ (hk [] false (.inr ⟨hin, rfl, rfl⟩))
    repeat' (first
 | (with_reducible first | exact True.intro | apply And.intro | apply If_true | apply If_false | apply If_not)
 | ((with_reducible apply VC.mk); (first | trivial | omega | (simp only [inR]; omega) | (exact ⟨rfl, List.prefix_rfl⟩) | (refine ⟨rfl, rfl, rfl, ?_, rfl⟩; (simp; done)) | (focus (repeat' (first | exact True.intro | apply And.intro | rfl | exact Nat.le_of_ble_eq_true rfl)); done) | (simp [inR, Cont.cells]; done) | (simp [inR, Cont.cells]; omega)))
 | ((with_reducible apply If_dec) <;> intro hc <;> (try (exfalso; omega)))
 | ((with_reducible apply If_any) <;> intro hc)
 | ((with_reducible first | apply PF.mk | apply DrawP.mk); (focus kernel_rfl))
 | ((with_reducible apply Same.mk); (focus rfl); (first | exact trivial | exact rfl))
 | (intro cap hcap)
 | ((fail_if_success (with_reducible first | apply Fin.mk | apply CallP.mk | apply LoopP.mk | apply VC.mk | apply falseMk | apply Round.mk | apply Eq.symm)); conv => whnf))
theorem ozero_c (l : List Int) (k : K) (h0 : l.length ≤ 1099511627776) (hk : ∀ b : Bool, (b = true ↔ ∀ i, i < l.length → l.getD i 0 = 0) → k (.v (.bool b)) []) : evFunc tab [] [] Go.Proofs.Try.f111 [.im false 1 l.length (.ints .u8 l)] [] k := by
  repeat' (first
 | (with_reducible first | exact True.intro | apply And.intro | apply If_true | apply If_false | apply If_not)
 | ((with_reducible apply VC.mk); (first | trivial | omega | (simp only [inR]; omega) | (exact ⟨rfl, List.prefix_rfl⟩) | (refine ⟨rfl, rfl, rfl, ?_, rfl⟩; (simp; done)) | (focus (repeat' (first | exact True.intro | apply And.intro | rfl | exact Nat.le_of_ble_eq_true rfl)); done) | (simp [inR, Cont.cells]; done) | (simp [inR, Cont.cells]; omega)))
 | ((with_reducible apply If_dec) <;> intro hc <;> (try (exfalso; omega)))
 | ((with_reducible apply If_any) <;> intro hc)
 | ((with_reducible first | apply PF.mk | apply DrawP.mk); (focus kernel_rfl))
 | ((with_reducible apply Same.mk); (focus rfl); (first | exact trivial | exact rfl))
 | (intro cap hcap)
 | ((fail_if_success (with_reducible first | apply Fin.mk | apply CallP.mk | apply LoopP.mk | apply VC.mk | apply falseMk | apply Round.mk | apply Eq.symm)); conv => whnf))
  refine LoopP.mk ⟨Nat, fun y => y ≤ l.length ∧ ∀ i, i < y → l.getD i 0 = 0, fun y => ([(5, .im false 1 l.length (.ints .u8 l)), (6, .v (.int .i64 l.length)), (7, .v (.int .i64 y))], []), fun y => l.length - y, 0, ⟨Nat.zero_le _, fun i hi => absurd hi (Nat.not_lt_zero _)⟩, Fit.ren [] [] rfl rfl trivial trivial ?_, ?_⟩
  · repeat' (first
 | (with_reducible first | exact True.intro | apply And.intro | apply If_true | apply If_false | apply If_not)
 | ((with_reducible apply VC.mk); (first | trivial | omega | (simp only [inR]; omega) | (exact ⟨rfl, List.prefix_rfl⟩) | (refine ⟨rfl, rfl, rfl, ?_, rfl⟩; (simp; done)) | (focus (repeat' (first | exact True.intro | apply And.intro | rfl | exact Nat.le_of_ble_eq_true rfl)); done) | (simp [inR, Cont.cells]; done) | (simp [inR, Cont.cells]; omega)))
 | ((with_reducible apply If_dec) <;> intro hc <;> (try (exfalso; omega)))
 | ((with_reducible apply If_any) <;> intro hc)
 | ((with_reducible first | apply PF.mk | apply DrawP.mk); (focus kernel_rfl))
 | ((with_reducible apply Same.mk); (focus rfl); (first | exact trivial | exact rfl))
 | (intro cap hcap)
 | ((fail_if_success (with_reducible first | apply Fin.mk | apply CallP.mk | apply LoopP.mk | apply VC.mk | apply falseMk | apply Round.mk | apply Eq.symm)); conv => whnf))
  · intro y hy
    obtain ⟨g1, g2⟩ := hy
    have e : ((y : Nat) : Int).toNat = y := Int.toNat_natCast _
    repeat' (first
 | (with_reducible first | exact True.intro | apply And.intro | apply If_true | apply If_false | apply If_not)
 | ((with_reducible apply VC.mk); (first | trivial | omega | (simp only [inR]; omega) | (exact ⟨rfl, List.prefix_rfl⟩) | (refine ⟨rfl, rfl, rfl, ?_, rfl⟩; (simp; done)) | (focus (repeat' (first | exact True.intro | apply And.intro | rfl | exact Nat.le_of_ble_eq_true rfl)); done) | (simp [inR, Cont.cells]; done) | (simp [inR, Cont.cells]; omega)))
 | ((with_reducible apply If_dec) <;> intro hc <;> (try (exfalso; omega)))
 | ((with_reducible apply If_any) <;> intro hc)
 | ((with_reducible first | apply PF.mk | apply DrawP.mk); (focus kernel_rfl))
 | ((with_reducible apply Same.mk); (focus rfl); (first | exact trivial | exact rfl))
 | (intro cap hcap)
 | ((fail_if_success (with_reducible first | apply Fin.mk | apply CallP.mk | apply LoopP.mk | apply VC.mk | apply falseMk | apply Round.mk | apply Eq.symm)); conv => whnf))
    · rw [e] at hc
      exact Fin.same (hk false ⟨fun h => (by cases h), fun h => absurd (h y (by omega)) hc⟩)
    · rw [e] at hc
      refine Round.mk ⟨y + 1, ⟨by show y + 1 ≤ _; omega, fun i hi => ?_⟩, by show l.length - (y + 1) < l.length - y; omega, Fit.ren [] [] rfl rfl trivial trivial ?_⟩
      · by_cases h : i = y
        · subst h; omega
        · exact g2 i (by omega)
      · repeat' (first
 | (with_reducible first | exact True.intro | apply And.intro | apply If_true | apply If_false | apply If_not)
 | ((with_reducible apply VC.mk); (first | trivial | omega | (simp only [inR]; omega) | (exact ⟨rfl, List.prefix_rfl⟩) | (refine ⟨rfl, rfl, rfl, ?_, rfl⟩; (simp; done)) | (focus (repeat' (first | exact True.intro | apply And.intro | rfl | exact Nat.le_of_ble_eq_true rfl)); done) | (simp [inR, Cont.cells]; done) | (simp [inR, Cont.cells]; omega)))
 | ((with_reducible apply If_dec) <;> intro hc <;> (try (exfalso; omega)))
 | ((with_reducible apply If_any) <;> intro hc)
 | ((with_reducible first | apply PF.mk | apply DrawP.mk); (focus kernel_rfl))
 | ((with_reducible apply Same.mk); (focus rfl); (first | exact trivial | exact rfl))
 | (intro cap hcap)
 | ((fail_if_success (with_reducible first | apply Fin.mk | apply CallP.mk | apply LoopP.mk | apply VC.mk | apply falseMk | apply Round.mk | apply Eq.symm)); conv => whnf))
    · exact Fin.same (hk true ⟨fun _ i hi => g2 i (by omega), fun _ => rfl⟩)
theorem oslice_K : ConOk Go.Proofs.Try.prog 133 (Con.of (List Int × Int × Int) (List Int × Bool) (fun (l, p, n) => [.im false 1 l.length (.ints .u8 l), .v (.int .i64 p), .v (.int .i64 n)]) (fun _ => []) (fun (l, p, n) => l.length ≤ 1099511627776 ∧ p ≤ 1099511627776 ∧ n ≤ 1099511627776) (fun (l, p, n) (m, b) => ((0 ≤ p ∧ 0 ≤ n ∧ p + n ≤ l.length) ∧ b = true ∧ m = (l.drop p.toNat).take n.toNat ∨ ¬ (0 ≤ p ∧ 0 ≤ n ∧ p + n ≤ l.length) ∧ b = false ∧ m = [])) (fun _ (m, b) => .tup [.im true 1 m.length (.ints .u8 m), .v (.bool b)]) (fun _ _ => [])) :=
  conOk_rel (T := tab) mix Go.Proofs.Try.func133 (by decide +kernel) (by kernel_rfl) [] [] (fun n => by rw [Go.Proofs.Try.ntmps133]; exact Nat.le_of_ble_eq_true rfl) (fun n z _ _ => ⟨⟨⟨rfl, trivial⟩, trivial, trivial⟩, (fun c hc => by cases hc), Nat.le_refl _⟩) (fun n _ c hc => by cases hc) (fun (l, p, n) k h0 hk => oslice_c l p n k h0 (fun m b hr => hk (m, b) hr))
theorem oslice_at {avs : List AV} {H : List Chunk} {k : K} (l : List Int) (p n : Int) (h0 : l.length ≤ 1099511627776 ∧ p ≤ 1099511627776 ∧ n ≤ 1099511627776) (ha : argsM H [] [.im false 1 l.length (.ints .u8 l), .v (.int .i64 p), .v (.int .i64 n)] avs)
    (h : ∀ (m : List Int) (b : Bool), ((0 ≤ p ∧ 0 ≤ n ∧ p + n ≤ l.length) ∧ b = true ∧ m = (l.drop p.toNat).take n.toNat ∨ ¬ (0 ≤ p ∧ 0 ≤ n ∧ p + n ≤ l.length) ∧ b = false ∧ m = []) → k (.tup [.im true 1 m.length (.ints .u8 m), .v (.bool b)]) H) : CallP Go.Proofs.Try.prog 133 avs H k :=
  CallP.mk ⟨_, oslice_K.real, Con.spec oslice_K, (l, p, n), [], ⟨h0, rfl, trivial, ha⟩, fun (m, b) hr => (numK_eq H.length (fun N => k (AV.ren (fren [] N) (.tup [.im true 1 m.length (.ints .u8 m), .v (.bool b)])) (putAll H [] []))).mpr (by simpa [putAll, AV.ren, rens, Cont.ren] using h m b hr)⟩
theorem ozero_K : ConOk Go.Proofs.Try.prog 111 (Con.of (List Int) Bool (fun l => [.im false 1 l.length (.ints .u8 l)]) (fun _ => []) (fun l => l.length ≤ 1099511627776) (fun l b => (b = true ↔ ∀ i, i < l.length → l.getD i 0 = 0)) (fun _ b => .v (.bool b)) (fun _ _ => [])) :=
  conOk_rel (T := tab) mix Go.Proofs.Try.func111 (by decide +kernel) (by kernel_rfl) [] [] (fun n => by rw [Go.Proofs.Try.ntmps111]; exact Nat.le_of_ble_eq_true rfl) (fun n z _ _ => ⟨trivial, (fun c hc => by cases hc), Nat.le_refl _⟩) (fun n _ c hc => by cases hc) (fun l k h0 hk => ozero_c l k h0 (fun b hr => hk b hr))
theorem ozero_at {avs : List AV} {H : List Chunk} {k : K} (l : List Int) (h0 : l.length ≤ 1099511627776) (ha : argsM H [] [.im false 1 l.length (.ints .u8 l)] avs) (h : ∀ b : Bool, (b = true ↔ ∀ i, i < l.length → l.getD i 0 = 0) → k (.v (.bool b)) H) : CallP Go.Proofs.Try.prog 111 avs H k :=
  CallP.mk ⟨_, ozero_K.real, Con.spec ozero_K, l, [], ⟨h0, rfl, trivial, ha⟩, fun b hr => (numK_eq H.length (fun N => k (AV.ren (fren [] N) (.v (.bool b))) (putAll H [] []))).mpr (by simpa [putAll, AV.ren] using h b hr)⟩
/-- The sum's step. -/
def crc1 (s : Int) : Int := if Go.bits .and .u32 s 1 = 1 then Go.bits .xor .u32 (s / 2) 3988292384 else s / 2
def crcN : Nat → Int → Int
  | 0, s => s
  | n + 1, s => crcN n (crc1 s)
def crcStep (s c : Int) : Int := crcN 8 (Go.bits .xor .u32 s c)
def R32 (x : Int) : Prop := 0 ≤ x ∧ x < 4294967296
theorem bits32 (op : BinOp) (a b : Int) : R32 (Go.bits op .u32 a b) := by
  unfold Go.bits R32
  simp only
  rw [wu32]
  omega
theorem crc1_R {s : Int} (h : R32 s) : R32 (crc1 s) := by
  unfold crc1
  split
  · exact bits32 _ _ _
  · unfold R32 at *; omega
theorem crcN_R : ∀ (n : Nat) {s : Int}, R32 s → R32 (crcN n s)
  | 0, s, h => h
  | n + 1, s, h => crcN_R n (crc1_R h)
theorem crcStep_R (s c : Int) : R32 (crcStep s c) := crcN_R 8 (bits32 _ _ _)
set_option maxHeartbeats 4000000 in
theorem step_c (s c : Int) (k : K) (h0 : R32 s ∧ 0 ≤ c ∧ c < 256) (hk : k (.v (.int .u32 (crcStep s c))) []) : evFunc tab [] [] Go.Proofs.Try.f139 [.v (.int .u32 s), .v (.int .u8 c)] [] k := by
  repeat' (first
 | (with_reducible first | exact True.intro | apply And.intro | apply If_true | apply If_false | apply If_not)
 | ((with_reducible apply VC.mk); (first | trivial | omega | (simp only [inR]; omega) | (exact ⟨rfl, List.prefix_rfl⟩) | (refine ⟨rfl, rfl, rfl, ?_, rfl⟩; (simp; done)) | (focus (repeat' (first | exact True.intro | apply And.intro | rfl | exact Nat.le_of_ble_eq_true rfl)); done) | (simp [inR, Cont.cells]; done) | (simp [inR, Cont.cells]; omega)))
 | ((with_reducible apply If_dec) <;> intro hc <;> (try (exfalso; omega)))
 | ((with_reducible apply If_any) <;> intro hc)
 | ((with_reducible first | apply PF.mk | apply DrawP.mk); (focus kernel_rfl))
 | ((with_reducible apply Same.mk); (focus rfl); (first | exact trivial | exact rfl))
 | (intro cap hcap)
 | ((fail_if_success (with_reducible first | apply Fin.mk | apply CallP.mk | apply LoopP.mk | apply VC.mk | apply falseMk | apply Round.mk | apply Eq.symm)); conv => whnf))
  refine LoopP.mk ⟨Nat × Int, fun y => y.1 ≤ 8 ∧ R32 y.2 ∧ crcN (8 - y.1) y.2 = crcStep s c, fun y => ([(0, .v (.int .u32 y.2)), (9, .v (.int .i64 y.1))], []), fun y => 8 - y.1, (0, Go.bits .xor .u32 s c), ⟨Nat.zero_le _, bits32 .xor s c, rfl⟩, Fit.ren [] [] rfl rfl trivial trivial ?_, ?_⟩
  · repeat' (first
 | (with_reducible first | exact True.intro | apply And.intro | apply If_true | apply If_false | apply If_not)
 | ((with_reducible apply VC.mk); (first | trivial | omega | (simp only [inR]; omega) | (exact ⟨rfl, List.prefix_rfl⟩) | (refine ⟨rfl, rfl, rfl, ?_, rfl⟩; (simp; done)) | (focus (repeat' (first | exact True.intro | apply And.intro | rfl | exact Nat.le_of_ble_eq_true rfl)); done) | (simp [inR, Cont.cells]; done) | (simp [inR, Cont.cells]; omega)))
 | ((with_reducible apply If_dec) <;> intro hc <;> (try (exfalso; omega)))
 | ((with_reducible apply If_any) <;> intro hc)
 | ((with_reducible first | apply PF.mk | apply DrawP.mk); (focus kernel_rfl))
 | ((with_reducible apply Same.mk); (focus rfl); (first | exact trivial | exact rfl))
 | (intro cap hcap)
 | ((fail_if_success (with_reducible first | apply Fin.mk | apply CallP.mk | apply LoopP.mk | apply VC.mk | apply falseMk | apply Round.mk | apply Eq.symm)); conv => whnf))
  · intro y hy
    obtain ⟨g1, g2, g3⟩ := hy
    have e2 : y.2 / 2 ^ min (Int.toNat 1) 32 = y.2 / 2 := rfl
    have e3 : 8 - y.1 = (8 - (y.1 + 1)) + 1 ∨ ¬ (y.1 : Int) < 8 := by omega
    repeat' (first
 | (with_reducible first | exact True.intro | apply And.intro | apply If_true | apply If_false | apply If_not)
 | ((with_reducible apply VC.mk); (first | trivial | omega | (simp only [inR]; omega) | (exact ⟨rfl, List.prefix_rfl⟩) | (refine ⟨rfl, rfl, rfl, ?_, rfl⟩; (simp; done)) | (focus (repeat' (first | exact True.intro | apply And.intro | rfl | exact Nat.le_of_ble_eq_true rfl)); done) | (simp [inR, Cont.cells]; done) | (simp [inR, Cont.cells]; omega)))
 | ((with_reducible apply If_dec) <;> intro hc <;> (try (exfalso; omega)))
 | ((with_reducible apply If_any) <;> intro hc)
 | ((with_reducible first | apply PF.mk | apply DrawP.mk); (focus kernel_rfl))
 | ((with_reducible apply Same.mk); (focus rfl); (first | exact trivial | exact rfl))
 | (intro cap hcap)
 | ((fail_if_success (with_reducible first | apply Fin.mk | apply CallP.mk | apply LoopP.mk | apply VC.mk | apply falseMk | apply Round.mk | apply Eq.symm)); conv => whnf))
    · rcases e3 with e3 | e3
      case inr => exact absurd (by omega) e3
      rw [e3, crcN] at g3
      have e4 : crc1 y.2 = Go.bits .xor .u32 (y.2 / 2) 3988292384 := if_pos hc
      refine Round.mk ⟨(y.1 + 1, crc1 y.2), ⟨by show y.1 + 1 ≤ _; omega, crc1_R g2, g3⟩, by show 8 - (y.1 + 1) < 8 - y.1; omega, Fit.ren [] [] rfl rfl trivial trivial ?_⟩
      repeat' (first
 | (with_reducible first | exact True.intro | apply And.intro | apply If_true | apply If_false | apply If_not)
 | ((with_reducible apply VC.mk); (first | trivial | omega | (simp only [inR]; omega) | (exact ⟨rfl, List.prefix_rfl⟩) | (refine ⟨rfl, rfl, rfl, ?_, rfl⟩; (simp; done)) | (focus (repeat' (first | exact True.intro | apply And.intro | rfl | exact Nat.le_of_ble_eq_true rfl)); done) | (simp [inR, Cont.cells]; done) | (simp [inR, Cont.cells]; omega)))
 | ((with_reducible apply If_dec) <;> intro hc <;> (try (exfalso; omega)))
 | ((with_reducible apply If_any) <;> intro hc)
 | ((with_reducible first | apply PF.mk | apply DrawP.mk); (focus kernel_rfl))
 | ((with_reducible apply Same.mk); (focus rfl); (first | exact trivial | exact rfl))
 | (intro cap hcap)
 | ((fail_if_success (with_reducible first | apply Fin.mk | apply CallP.mk | apply LoopP.mk | apply VC.mk | apply falseMk | apply Round.mk | apply Eq.symm)); conv => whnf))
      all_goals (refine VC.mk ?_; exact congrArg (Value.int .u32) e4.symm)
    · rcases e3 with e3 | e3
      case inr => exact absurd (by omega) e3
      rw [e3, crcN] at g3
      have e4 : crc1 y.2 = y.2 / 2 := if_neg hc
      refine Round.mk ⟨(y.1 + 1, crc1 y.2), ⟨by show y.1 + 1 ≤ _; omega, crc1_R g2, g3⟩, by show 8 - (y.1 + 1) < 8 - y.1; omega, Fit.ren [] [] rfl rfl trivial trivial ?_⟩
      repeat' (first
 | (with_reducible first | exact True.intro | apply And.intro | apply If_true | apply If_false | apply If_not)
 | ((with_reducible apply VC.mk); (first | trivial | omega | (simp only [inR]; omega) | (exact ⟨rfl, List.prefix_rfl⟩) | (refine ⟨rfl, rfl, rfl, ?_, rfl⟩; (simp; done)) | (focus (repeat' (first | exact True.intro | apply And.intro | rfl | exact Nat.le_of_ble_eq_true rfl)); done) | (simp [inR, Cont.cells]; done) | (simp [inR, Cont.cells]; omega)))
 | ((with_reducible apply If_dec) <;> intro hc <;> (try (exfalso; omega)))
 | ((with_reducible apply If_any) <;> intro hc)
 | ((with_reducible first | apply PF.mk | apply DrawP.mk); (focus kernel_rfl))
 | ((with_reducible apply Same.mk); (focus rfl); (first | exact trivial | exact rfl))
 | (intro cap hcap)
 | ((fail_if_success (with_reducible first | apply Fin.mk | apply CallP.mk | apply LoopP.mk | apply VC.mk | apply falseMk | apply Round.mk | apply Eq.symm)); conv => whnf))
      all_goals (refine VC.mk ?_; exact congrArg (Value.int .u32) e4.symm)
    · rw [show 8 - y.1 = 0 by omega, crcN] at g3
      rw [g3]
      exact Fin.same hk
theorem step_K : ConOk Go.Proofs.Try.prog 139 (Con.fn (Int × Int) (fun x => [.v (.int .u32 x.1), .v (.int .u8 x.2)]) (fun _ => []) (fun x => R32 x.1 ∧ 0 ≤ x.2 ∧ x.2 < 256) (fun x => .v (.int .u32 (crcStep x.1 x.2))) (fun _ => [])) :=
  conOk_fn (T := tab) mix Go.Proofs.Try.func139 (by decide +kernel) (by kernel_rfl) [] [] (fun n => by rw [Go.Proofs.Try.ntmps139]; exact Nat.le_of_ble_eq_true rfl) (fun n _ => ⟨trivial, (fun c hc => by cases hc), Nat.le_refl _⟩) (fun n _ c hc => by cases hc) (fun x k h0 hk => step_c x.1 x.2 k h0 hk)
theorem step_at {avs : List AV} {H : List Chunk} {k : K} (s c : Int) (h0 : R32 s ∧ 0 ≤ c ∧ c < 256) (ha : argsM H [] [.v (.int .u32 s), .v (.int .u8 c)] avs) (h : k (.v (.int .u32 (crcStep s c))) H) : CallP Go.Proofs.Try.prog 139 avs H k :=
  CallP.mk ⟨_, step_K.real, Con.spec step_K, (s, c), [], ⟨h0, rfl, trivial, ha⟩, (numK_eq H.length (fun N => k (AV.ren (fren [] N) (.v (.int .u32 (crcStep s c)))) (putAll H [] []))).mpr (by simpa [putAll, AV.ren] using h)⟩
def crcNot (s : Int) : Int := Go.bits .xor .u32 (if IntKind.u32.signed = true then -1 else IntKind.u32.max) s
def moreL (s : Int) (l : List Int) : Int := crcNot (l.foldl crcStep (crcNot s))
theorem crcNot_R (s : Int) : R32 (crcNot s) := bits32 _ _ _
theorem moreL_R (s : Int) (l : List Int) : R32 (moreL s l) := crcNot_R _
set_option maxHeartbeats 4000000 in
theorem more_c (s : Int) (l : List Int) (k : K) (h0 : R32 s ∧ B8 l ∧ l.length ≤ 1099511627776) (hk : k (.v (.int .u32 (moreL s l))) []) : evFunc tab [] [] Go.Proofs.Try.f132 [.v (.int .u32 s), .im false 1 l.length (.ints .u8 l)] [] k := by
  repeat' (first
 | (with_reducible first | exact True.intro | apply And.intro | apply If_true | apply If_false | apply If_not)
 | ((with_reducible apply VC.mk); (first | trivial | omega | (simp only [inR]; omega) | (exact ⟨rfl, List.prefix_rfl⟩) | (refine ⟨rfl, rfl, rfl, ?_, rfl⟩; (simp; done)) | (focus (repeat' (first | exact True.intro | apply And.intro | rfl | exact Nat.le_of_ble_eq_true rfl)); done) | (simp [inR, Cont.cells]; done) | (simp [inR, Cont.cells]; omega)))
 | ((with_reducible apply If_dec) <;> intro hc <;> (try (exfalso; omega)))
 | ((with_reducible apply If_any) <;> intro hc)
 | ((with_reducible first | apply PF.mk | apply DrawP.mk); (focus kernel_rfl))
 | ((with_reducible apply Same.mk); (focus rfl); (first | exact trivial | exact rfl))
 | (intro cap hcap)
 | ((fail_if_success (with_reducible first | apply Fin.mk | apply CallP.mk | apply LoopP.mk | apply VC.mk | apply falseMk | apply Round.mk | apply Eq.symm)); conv => whnf))
  refine LoopP.mk ⟨Nat × Int, fun y => y.1 ≤ l.length ∧ R32 y.2 ∧ y.2 = (l.take y.1).foldl crcStep (crcNot s), fun y => ([(0, .v (.int .u32 y.2)), (9, .im false 1 l.length (.ints .u8 l)), (10, .v (.int .i64 l.length)), (11, .v (.int .i64 y.1))], []), fun y => l.length - y.1, (0, crcNot s), ⟨Nat.zero_le _, crcNot_R s, rfl⟩, Fit.ren [] [] rfl rfl trivial trivial ?_, ?_⟩
  · repeat' (first
 | (with_reducible first | exact True.intro | apply And.intro | apply If_true | apply If_false | apply If_not)
 | ((with_reducible apply VC.mk); (first | trivial | omega | (simp only [inR]; omega) | (exact ⟨rfl, List.prefix_rfl⟩) | (refine ⟨rfl, rfl, rfl, ?_, rfl⟩; (simp; done)) | (focus (repeat' (first | exact True.intro | apply And.intro | rfl | exact Nat.le_of_ble_eq_true rfl)); done) | (simp [inR, Cont.cells]; done) | (simp [inR, Cont.cells]; omega)))
 | ((with_reducible apply If_dec) <;> intro hc <;> (try (exfalso; omega)))
 | ((with_reducible apply If_any) <;> intro hc)
 | ((with_reducible first | apply PF.mk | apply DrawP.mk); (focus kernel_rfl))
 | ((with_reducible apply Same.mk); (focus rfl); (first | exact trivial | exact rfl))
 | (intro cap hcap)
 | ((fail_if_success (with_reducible first | apply Fin.mk | apply CallP.mk | apply LoopP.mk | apply VC.mk | apply falseMk | apply Round.mk | apply Eq.symm)); conv => whnf))
  · intro y hy
    obtain ⟨g1, g2, g3⟩ := hy
    have e : ((y.1 : Nat) : Int).toNat = y.1 := Int.toNat_natCast _
    repeat' (first
 | (with_reducible first | exact True.intro | apply And.intro | apply If_true | apply If_false | apply If_not)
 | ((with_reducible apply VC.mk); (first | trivial | omega | (simp only [inR]; omega) | (exact ⟨rfl, List.prefix_rfl⟩) | (refine ⟨rfl, rfl, rfl, ?_, rfl⟩; (simp; done)) | (focus (repeat' (first | exact True.intro | apply And.intro | rfl | exact Nat.le_of_ble_eq_true rfl)); done) | (simp [inR, Cont.cells]; done) | (simp [inR, Cont.cells]; omega)))
 | ((with_reducible apply If_dec) <;> intro hc <;> (try (exfalso; omega)))
 | ((with_reducible apply If_any) <;> intro hc)
 | ((with_reducible first | apply PF.mk | apply DrawP.mk); (focus kernel_rfl))
 | ((with_reducible apply Same.mk); (focus rfl); (first | exact trivial | exact rfl))
 | (intro cap hcap)
 | ((fail_if_success (with_reducible first | apply Fin.mk | apply CallP.mk | apply LoopP.mk | apply VC.mk | apply falseMk | apply Round.mk | apply Eq.symm)); conv => whnf))
    · refine step_at y.2 (l.getD ((y.1 : Nat) : Int).toNat 0) ⟨g2, h0.2.1.getD _⟩ ⟨rfl, rfl, trivial⟩ ?_
      rw [e]
      have hlt : y.1 < l.length := by omega
      repeat' (first
 | (with_reducible first | exact True.intro | apply And.intro | apply If_true | apply If_false | apply If_not)
 | ((with_reducible apply VC.mk); (first | trivial | omega | (simp only [inR]; omega) | (exact ⟨rfl, List.prefix_rfl⟩) | (refine ⟨rfl, rfl, rfl, ?_, rfl⟩; (simp; done)) | (focus (repeat' (first | exact True.intro | apply And.intro | rfl | exact Nat.le_of_ble_eq_true rfl)); done) | (simp [inR, Cont.cells]; done) | (simp [inR, Cont.cells]; omega)))
 | ((with_reducible apply If_dec) <;> intro hc <;> (try (exfalso; omega)))
 | ((with_reducible apply If_any) <;> intro hc)
 | ((with_reducible first | apply PF.mk | apply DrawP.mk); (focus kernel_rfl))
 | ((with_reducible apply Same.mk); (focus rfl); (first | exact trivial | exact rfl))
 | (intro cap hcap)
 | ((fail_if_success (with_reducible first | apply Fin.mk | apply CallP.mk | apply LoopP.mk | apply VC.mk | apply falseMk | apply Round.mk | apply Eq.symm)); conv => whnf))
      refine Round.mk ⟨(y.1 + 1, crcStep y.2 (l.getD y.1 0)), ⟨by show y.1 + 1 ≤ _; omega, crcStep_R _ _, ?_⟩, by show l.length - (y.1 + 1) < l.length - y.1; omega, Fit.ren [] [] rfl rfl trivial trivial ?_⟩
      · rw [List.take_add_one, List.getElem?_eq_getElem hlt, List.foldl_append, ← g3, List.getD_eq_getElem?_getD, List.getElem?_eq_getElem hlt]
        rfl
      · repeat' (first
 | (with_reducible first | exact True.intro | apply And.intro | apply If_true | apply If_false | apply If_not)
 | ((with_reducible apply VC.mk); (first | trivial | omega | (simp only [inR]; omega) | (exact ⟨rfl, List.prefix_rfl⟩) | (refine ⟨rfl, rfl, rfl, ?_, rfl⟩; (simp; done)) | (focus (repeat' (first | exact True.intro | apply And.intro | rfl | exact Nat.le_of_ble_eq_true rfl)); done) | (simp [inR, Cont.cells]; done) | (simp [inR, Cont.cells]; omega)))
 | ((with_reducible apply If_dec) <;> intro hc <;> (try (exfalso; omega)))
 | ((with_reducible apply If_any) <;> intro hc)
 | ((with_reducible first | apply PF.mk | apply DrawP.mk); (focus kernel_rfl))
 | ((with_reducible apply Same.mk); (focus rfl); (first | exact trivial | exact rfl))
 | (intro cap hcap)
 | ((fail_if_success (with_reducible first | apply Fin.mk | apply CallP.mk | apply LoopP.mk | apply VC.mk | apply falseMk | apply Round.mk | apply Eq.symm)); conv => whnf))
    · have e2 : (l.take y.1) = l := List.take_of_length_le (by omega)
      rw [e2] at g3
      rw [g3]
      exact Fin.same hk
theorem more_K : ConOk Go.Proofs.Try.prog 132 (Con.fn (Int × List Int) (fun (s, l) => [.v (.int .u32 s), .im false 1 l.length (.ints .u8 l)]) (fun _ => []) (fun (s, l) => R32 s ∧ B8 l ∧ l.length ≤ 1099511627776) (fun (s, l) => .v (.int .u32 (moreL s l))) (fun _ => [])) :=
  conOk_fn (T := tab) mix Go.Proofs.Try.func132 (by decide +kernel) (by kernel_rfl) [] [] (fun n => by rw [Go.Proofs.Try.ntmps132]; exact Nat.le_of_ble_eq_true rfl) (fun n _ => ⟨trivial, (fun c hc => by cases hc), Nat.le_refl _⟩) (fun n _ c hc => by cases hc) (fun (s, l) k h0 hk => more_c s l k h0 hk)
theorem more_at {avs : List AV} {H : List Chunk} {k : K} (s : Int) (l : List Int) (h0 : R32 s ∧ B8 l ∧ l.length ≤ 1099511627776) (ha : argsM H [] [.v (.int .u32 s), .im false 1 l.length (.ints .u8 l)] avs) (h : k (.v (.int .u32 (moreL s l))) H) : CallP Go.Proofs.Try.prog 132 avs H k :=
  CallP.mk ⟨_, more_K.real, Con.spec more_K, (s, l), [], ⟨h0, rfl, trivial, ha⟩, (numK_eq H.length (fun N => k (AV.ren (fren [] N) (.v (.int .u32 (moreL s l)))) (putAll H [] []))).mpr (by simpa [putAll, AV.ren] using h)⟩
/-- The sum of one part: lent, or the beginning of a row that is handed over. -/
def rowOf (g : Bool) (l : List Int) : Cont := .recs 1 1 (fun _ => [.im g 1 l.length (.ints .u8 l)])
set_option maxHeartbeats 4000000 in
theorem sum_c (l : List Int) (k : K) (h0 : B8 l ∧ l.length ≤ 1099511627776) (hk : k (.v (.int .u32 (moreL 0 l))) []) : evFunc tab [] [] Go.Proofs.Try.f110 [.im false 1 1 (rowOf false l)] [] k := by
  repeat' (first
 | (with_reducible first | exact True.intro | apply And.intro | apply If_true | apply If_false | apply If_not)
 | ((with_reducible apply VC.mk); (first | trivial | omega | (simp only [inR]; omega) | (exact ⟨rfl, List.prefix_rfl⟩) | (refine ⟨rfl, rfl, rfl, ?_, rfl⟩; (simp; done)) | (focus (repeat' (first | exact True.intro | apply And.intro | rfl | exact Nat.le_of_ble_eq_true rfl)); done) | (simp [inR, Cont.cells]; done) | (simp [inR, Cont.cells]; omega)))
 | ((with_reducible apply If_dec) <;> intro hc <;> (try (exfalso; omega)))
 | ((with_reducible apply If_any) <;> intro hc)
 | ((with_reducible first | apply PF.mk | apply DrawP.mk); (focus kernel_rfl))
 | ((with_reducible apply Same.mk); (focus rfl); (first | exact trivial | exact rfl))
 | (intro cap hcap)
 | ((fail_if_success (with_reducible first | apply Fin.mk | apply CallP.mk | apply LoopP.mk | apply VC.mk | apply falseMk | apply Round.mk | apply Eq.symm)); conv => whnf))
  refine LoopP.mk ⟨Nat, fun y => y ≤ 1, fun y => ([(3, .v (.int .u32 (if y = 0 then 0 else moreL 0 l))), (6, .im false 1 1 (rowOf false l)), (7, .v (.int .i64 1)), (8, .v (.int .i64 y))], []), fun y => 1 - y, 0, Nat.zero_le _, Fit.ren [] [] rfl rfl trivial trivial ?_, ?_⟩
  · repeat' (first
 | (with_reducible first | exact True.intro | apply And.intro | apply If_true | apply If_false | apply If_not)
 | ((with_reducible apply VC.mk); (first | trivial | omega | (simp only [inR]; omega) | (exact ⟨rfl, List.prefix_rfl⟩) | (refine ⟨rfl, rfl, rfl, ?_, rfl⟩; (simp; done)) | (focus (repeat' (first | exact True.intro | apply And.intro | rfl | exact Nat.le_of_ble_eq_true rfl)); done) | (simp [inR, Cont.cells]; done) | (simp [inR, Cont.cells]; omega)))
 | ((with_reducible apply If_dec) <;> intro hc <;> (try (exfalso; omega)))
 | ((with_reducible apply If_any) <;> intro hc)
 | ((with_reducible first | apply PF.mk | apply DrawP.mk); (focus kernel_rfl))
 | ((with_reducible apply Same.mk); (focus rfl); (first | exact trivial | exact rfl))
 | (intro cap hcap)
 | ((fail_if_success (with_reducible first | apply Fin.mk | apply CallP.mk | apply LoopP.mk | apply VC.mk | apply falseMk | apply Round.mk | apply Eq.symm)); conv => whnf))
  · intro y hy
    have hy : y ≤ 1 := hy
    repeat' (first
 | (with_reducible first | exact True.intro | apply And.intro | apply If_true | apply If_false | apply If_not)
 | ((with_reducible apply VC.mk); (first | trivial | omega | (simp only [inR]; omega) | (exact ⟨rfl, List.prefix_rfl⟩) | (refine ⟨rfl, rfl, rfl, ?_, rfl⟩; (simp; done)) | (focus (repeat' (first | exact True.intro | apply And.intro | rfl | exact Nat.le_of_ble_eq_true rfl)); done) | (simp [inR, Cont.cells]; done) | (simp [inR, Cont.cells]; omega)))
 | ((with_reducible apply If_dec) <;> intro hc <;> (try (exfalso; omega)))
 | ((with_reducible apply If_any) <;> intro hc)
 | ((with_reducible first | apply PF.mk | apply DrawP.mk); (focus kernel_rfl))
 | ((with_reducible apply Same.mk); (focus rfl); (first | exact trivial | exact rfl))
 | (intro cap hcap)
 | ((fail_if_success (with_reducible first | apply Fin.mk | apply CallP.mk | apply LoopP.mk | apply VC.mk | apply falseMk | apply Round.mk | apply Eq.symm)); conv => whnf))
    · have hy0 : y = 0 := by omega
      subst hy0
      refine more_at 0 l ⟨⟨by decide, by decide⟩, h0⟩ ⟨rfl, ⟨rfl, rfl, rfl⟩, trivial⟩ ?_
      repeat' (first
 | (with_reducible first | exact True.intro | apply And.intro | apply If_true | apply If_false | apply If_not)
 | ((with_reducible apply VC.mk); (first | trivial | omega | (simp only [inR]; omega) | (exact ⟨rfl, List.prefix_rfl⟩) | (refine ⟨rfl, rfl, rfl, ?_, rfl⟩; (simp; done)) | (focus (repeat' (first | exact True.intro | apply And.intro | rfl | exact Nat.le_of_ble_eq_true rfl)); done) | (simp [inR, Cont.cells]; done) | (simp [inR, Cont.cells]; omega)))
 | ((with_reducible apply If_dec) <;> intro hc <;> (try (exfalso; omega)))
 | ((with_reducible apply If_any) <;> intro hc)
 | ((with_reducible first | apply PF.mk | apply DrawP.mk); (focus kernel_rfl))
 | ((with_reducible apply Same.mk); (focus rfl); (first | exact trivial | exact rfl))
 | (intro cap hcap)
 | ((fail_if_success (with_reducible first | apply Fin.mk | apply CallP.mk | apply LoopP.mk | apply VC.mk | apply falseMk | apply Round.mk | apply Eq.symm)); conv => whnf))
      refine Round.mk ⟨1, Nat.le_refl _, by decide, Fit.ren [] [] rfl rfl trivial trivial ?_⟩
      repeat' (first
 | (with_reducible first | exact True.intro | apply And.intro | apply If_true | apply If_false | apply If_not)
 | ((with_reducible apply VC.mk); (first | trivial | omega | (simp only [inR]; omega) | (exact ⟨rfl, List.prefix_rfl⟩) | (refine ⟨rfl, rfl, rfl, ?_, rfl⟩; (simp; done)) | (focus (repeat' (first | exact True.intro | apply And.intro | rfl | exact Nat.le_of_ble_eq_true rfl)); done) | (simp [inR, Cont.cells]; done) | (simp [inR, Cont.cells]; omega)))
 | ((with_reducible apply If_dec) <;> intro hc <;> (try (exfalso; omega)))
 | ((with_reducible apply If_any) <;> intro hc)
 | ((with_reducible first | apply PF.mk | apply DrawP.mk); (focus kernel_rfl))
 | ((with_reducible apply Same.mk); (focus rfl); (first | exact trivial | exact rfl))
 | (intro cap hcap)
 | ((fail_if_success (with_reducible first | apply Fin.mk | apply CallP.mk | apply LoopP.mk | apply VC.mk | apply falseMk | apply Round.mk | apply Eq.symm)); conv => whnf))
    · have hy0 : y = 1 := by omega
      subst hy0
      exact Fin.same hk
theorem sum_K : ConOk Go.Proofs.Try.prog 110 (Con.fn (List Int) (fun l => [.im false 1 1 (rowOf false l)]) (fun _ => []) (fun l => B8 l ∧ l.length ≤ 1099511627776) (fun l => .v (.int .u32 (moreL 0 l))) (fun _ => [])) :=
  conOk_fn (T := tab) mix Go.Proofs.Try.func110 (by decide +kernel) (by kernel_rfl) [] [] (fun n => by rw [Go.Proofs.Try.ntmps110]; exact Nat.le_of_ble_eq_true rfl) (fun n _ => ⟨trivial, (fun c hc => by cases hc), Nat.le_refl _⟩) (fun n _ c hc => by cases hc) (fun l k h0 hk => sum_c l k h0 hk)
theorem sum_at {avs : List AV} {H : List Chunk} {k : K} (l : List Int) (h0 : B8 l ∧ l.length ≤ 1099511627776) (ha : argsM H [] [.im false 1 1 (rowOf false l)] avs) (h : k (.v (.int .u32 (moreL 0 l))) H) : CallP Go.Proofs.Try.prog 110 avs H k :=
  CallP.mk ⟨_, sum_K.real, Con.spec sum_K, l, [], ⟨h0, rfl, trivial, ha⟩, (numK_eq H.length (fun N => k (AV.ren (fren [] N) (.v (.int .u32 (moreL 0 l)))) (putAll H [] []))).mpr (by simpa [putAll, AV.ren] using h)⟩
set_option maxHeartbeats 4000000 in
theorem sum2_c (l : List Int) (n c : Nat) (k : K) (h0 : B8 l ∧ n ≤ l.length ∧ n ≤ 1099511627776) (hk : k (.v (.int .u32 (moreL 0 (l.take n)))) [.blk 22 (.recs 1 1 (fun _ => [.s 1 0 1 n c])) 1, .blk 5 (.ints .u8 l) c]) : evFunc tab [] [] Go.Proofs.Try.f110 [.s 0 0 1 1 1] [.blk 22 (.recs 1 1 (fun _ => [.s 1 0 1 n c])) 1, .blk 5 (.ints .u8 l) c] k := by
  have hl : (l.take n).length = n := by rw [List.length_take]; omega
  repeat' (first
 | (with_reducible first | exact True.intro | apply And.intro | apply If_true | apply If_false | apply If_not)
 | ((with_reducible apply VC.mk); (first | trivial | omega | (simp only [inR]; omega) | (exact ⟨rfl, List.prefix_rfl⟩) | (refine ⟨rfl, rfl, rfl, ?_, rfl⟩; (simp; done)) | (focus (repeat' (first | exact True.intro | apply And.intro | rfl | exact Nat.le_of_ble_eq_true rfl)); done) | (simp [inR, Cont.cells]; done) | (simp [inR, Cont.cells]; omega)))
 | ((with_reducible apply If_dec) <;> intro hc <;> (try (exfalso; omega)))
 | ((with_reducible apply If_any) <;> intro hc)
 | ((with_reducible first | apply PF.mk | apply DrawP.mk); (focus kernel_rfl))
 | ((with_reducible apply Same.mk); (focus rfl); (first | exact trivial | exact rfl))
 | (intro cap hcap)
 | ((fail_if_success (with_reducible first | apply Fin.mk | apply CallP.mk | apply LoopP.mk | apply VC.mk | apply falseMk | apply Round.mk | apply Eq.symm)); conv => whnf))
  refine LoopP.mk ⟨Nat, fun y => y ≤ 1, fun y => ([(3, .v (.int .u32 (if y = 0 then 0 else moreL 0 (l.take n)))), (6, .s 0 0 1 1 1), (7, .v (.int .i64 1)), (8, .v (.int .i64 y))], [.blk 22 (.recs 1 1 (fun _ => [.s 1 0 1 n c])) 1, .blk 5 (.ints .u8 l) c]), fun y => 1 - y, 0, Nat.zero_le _, Fit.ren [0, 1] [] rfl rfl trivial ?_ ?_, ?_⟩
  · repeat' (first
 | (with_reducible first | exact True.intro | apply And.intro | apply If_true | apply If_false | apply If_not)
 | ((with_reducible apply VC.mk); (first | trivial | omega | (simp only [inR]; omega) | (exact ⟨rfl, List.prefix_rfl⟩) | (refine ⟨rfl, rfl, rfl, ?_, rfl⟩; (simp; done)) | (focus (repeat' (first | exact True.intro | apply And.intro | rfl | exact Nat.le_of_ble_eq_true rfl)); done) | (simp [inR, Cont.cells]; done) | (simp [inR, Cont.cells]; omega)))
 | ((with_reducible apply If_dec) <;> intro hc <;> (try (exfalso; omega)))
 | ((with_reducible apply If_any) <;> intro hc)
 | ((with_reducible first | apply PF.mk | apply DrawP.mk); (focus kernel_rfl))
 | ((with_reducible apply Same.mk); (focus rfl); (first | exact trivial | exact rfl))
 | (intro cap hcap)
 | ((fail_if_success (with_reducible first | apply Fin.mk | apply CallP.mk | apply LoopP.mk | apply VC.mk | apply falseMk | apply Round.mk | apply Eq.symm)); conv => whnf))
  · repeat' (first
 | (with_reducible first | exact True.intro | apply And.intro | apply If_true | apply If_false | apply If_not)
 | ((with_reducible apply VC.mk); (first | trivial | omega | (simp only [inR]; omega) | (exact ⟨rfl, List.prefix_rfl⟩) | (refine ⟨rfl, rfl, rfl, ?_, rfl⟩; (simp; done)) | (focus (repeat' (first | exact True.intro | apply And.intro | rfl | exact Nat.le_of_ble_eq_true rfl)); done) | (simp [inR, Cont.cells]; done) | (simp [inR, Cont.cells]; omega)))
 | ((with_reducible apply If_dec) <;> intro hc <;> (try (exfalso; omega)))
 | ((with_reducible apply If_any) <;> intro hc)
 | ((with_reducible first | apply PF.mk | apply DrawP.mk); (focus kernel_rfl))
 | ((with_reducible apply Same.mk); (focus rfl); (first | exact trivial | exact rfl))
 | (intro cap hcap)
 | ((fail_if_success (with_reducible first | apply Fin.mk | apply CallP.mk | apply LoopP.mk | apply VC.mk | apply falseMk | apply Round.mk | apply Eq.symm)); conv => whnf))
  · intro y hy
    have hy : y ≤ 1 := hy
    repeat' (first
 | (with_reducible first | exact True.intro | apply And.intro | apply If_true | apply If_false | apply If_not)
 | ((with_reducible apply VC.mk); (first | trivial | omega | (simp only [inR]; omega) | (exact ⟨rfl, List.prefix_rfl⟩) | (refine ⟨rfl, rfl, rfl, ?_, rfl⟩; (simp; done)) | (focus (repeat' (first | exact True.intro | apply And.intro | rfl | exact Nat.le_of_ble_eq_true rfl)); done) | (simp [inR, Cont.cells]; done) | (simp [inR, Cont.cells]; omega)))
 | ((with_reducible apply If_dec) <;> intro hc <;> (try (exfalso; omega)))
 | ((with_reducible apply If_any) <;> intro hc)
 | ((with_reducible first | apply PF.mk | apply DrawP.mk); (focus kernel_rfl))
 | ((with_reducible apply Same.mk); (focus rfl); (first | exact trivial | exact rfl))
 | (intro cap hcap)
 | ((fail_if_success (with_reducible first | apply Fin.mk | apply CallP.mk | apply LoopP.mk | apply VC.mk | apply falseMk | apply Round.mk | apply Eq.symm)); conv => whnf))
    · have hy0 : y = 0 := by omega
      subst hy0
      refine more_at 0 (l.take n) ⟨⟨by decide, by decide⟩, h0.1.take _, by omega⟩ ⟨rfl, ⟨by omega, rfl, hl.symm, by show Cont.ints _ _ = Cont.ints _ _; rw [List.drop_zero], rfl, Nat.one_pos⟩, trivial⟩ ?_
      repeat' (first
 | (with_reducible first | exact True.intro | apply And.intro | apply If_true | apply If_false | apply If_not)
 | ((with_reducible apply VC.mk); (first | trivial | omega | (simp only [inR]; omega) | (exact ⟨rfl, List.prefix_rfl⟩) | (refine ⟨rfl, rfl, rfl, ?_, rfl⟩; (simp; done)) | (focus (repeat' (first | exact True.intro | apply And.intro | rfl | exact Nat.le_of_ble_eq_true rfl)); done) | (simp [inR, Cont.cells]; done) | (simp [inR, Cont.cells]; omega)))
 | ((with_reducible apply If_dec) <;> intro hc <;> (try (exfalso; omega)))
 | ((with_reducible apply If_any) <;> intro hc)
 | ((with_reducible first | apply PF.mk | apply DrawP.mk); (focus kernel_rfl))
 | ((with_reducible apply Same.mk); (focus rfl); (first | exact trivial | exact rfl))
 | (intro cap hcap)
 | ((fail_if_success (with_reducible first | apply Fin.mk | apply CallP.mk | apply LoopP.mk | apply VC.mk | apply falseMk | apply Round.mk | apply Eq.symm)); conv => whnf))
      refine Round.mk ⟨1, Nat.le_refl _, by decide, Fit.ren [0, 1] [] rfl rfl trivial ?_ ?_⟩
      · repeat' (first
 | (with_reducible first | exact True.intro | apply And.intro | apply If_true | apply If_false | apply If_not)
 | ((with_reducible apply VC.mk); (first | trivial | omega | (simp only [inR]; omega) | (exact ⟨rfl, List.prefix_rfl⟩) | (refine ⟨rfl, rfl, rfl, ?_, rfl⟩; (simp; done)) | (focus (repeat' (first | exact True.intro | apply And.intro | rfl | exact Nat.le_of_ble_eq_true rfl)); done) | (simp [inR, Cont.cells]; done) | (simp [inR, Cont.cells]; omega)))
 | ((with_reducible apply If_dec) <;> intro hc <;> (try (exfalso; omega)))
 | ((with_reducible apply If_any) <;> intro hc)
 | ((with_reducible first | apply PF.mk | apply DrawP.mk); (focus kernel_rfl))
 | ((with_reducible apply Same.mk); (focus rfl); (first | exact trivial | exact rfl))
 | (intro cap hcap)
 | ((fail_if_success (with_reducible first | apply Fin.mk | apply CallP.mk | apply LoopP.mk | apply VC.mk | apply falseMk | apply Round.mk | apply Eq.symm)); conv => whnf))
      · repeat' (first
 | (with_reducible first | exact True.intro | apply And.intro | apply If_true | apply If_false | apply If_not)
 | ((with_reducible apply VC.mk); (first | trivial | omega | (simp only [inR]; omega) | (exact ⟨rfl, List.prefix_rfl⟩) | (refine ⟨rfl, rfl, rfl, ?_, rfl⟩; (simp; done)) | (focus (repeat' (first | exact True.intro | apply And.intro | rfl | exact Nat.le_of_ble_eq_true rfl)); done) | (simp [inR, Cont.cells]; done) | (simp [inR, Cont.cells]; omega)))
 | ((with_reducible apply If_dec) <;> intro hc <;> (try (exfalso; omega)))
 | ((with_reducible apply If_any) <;> intro hc)
 | ((with_reducible first | apply PF.mk | apply DrawP.mk); (focus kernel_rfl))
 | ((with_reducible apply Same.mk); (focus rfl); (first | exact trivial | exact rfl))
 | (intro cap hcap)
 | ((fail_if_success (with_reducible first | apply Fin.mk | apply CallP.mk | apply LoopP.mk | apply VC.mk | apply falseMk | apply Round.mk | apply Eq.symm)); conv => whnf))
    · have hy0 : y = 1 := by omega
      subst hy0
      exact Fin.same hk
theorem sum2_K : ConOk Go.Proofs.Try.prog 110 (Con.fn (List Int × Nat × Nat) (fun _ => [.s 0 0 1 1 1]) (fun (l, n, c) => [.blk 22 (.recs 1 1 (fun _ => [.s 1 0 1 n c])) 1, .blk 5 (.ints .u8 l) c]) (fun (l, n, _) => B8 l ∧ n ≤ l.length ∧ n ≤ 1099511627776) (fun (l, n, _) => .v (.int .u32 (moreL 0 (l.take n)))) (fun (l, n, c) => [.blk 22 (.recs 1 1 (fun _ => [.s 1 0 1 n c])) 1, .blk 5 (.ints .u8 l) c])) :=
  conOk_fn (T := tab) mix Go.Proofs.Try.func110 (by decide +kernel) (by kernel_rfl) [] [] (fun n => by rw [Go.Proofs.Try.ntmps110]; exact Nat.le_of_ble_eq_true rfl) (fun (l, n, c) _ => ⟨trivial, (fun x hx => by simp at hx; rcases hx with rfl | rfl; exact .blk (fun _ _ => ⟨trivial, trivial⟩); exact .blk trivial), Nat.le_refl _⟩) (fun (l, n, c) _ x hx => by simp at hx; rcases hx with rfl | rfl <;> trivial) (fun (l, n, c) k h0 hk => sum2_c l n c k h0 hk)
theorem sum2_at {avs : List AV} {H : List Chunk} {k : K} (l : List Int) (n c : Nat) (σ : List Nat) (h0 : B8 l ∧ n ≤ l.length ∧ n ≤ 1099511627776) (hn : nodupN σ = true) (hc : chunksAt H (fren σ H.length) σ [.blk 22 (.recs 1 1 (fun _ => [.s 1 0 1 n c])) 1, .blk 5 (.ints .u8 l) c]) (ha : argsM H σ [.s 0 0 1 1 1] avs)
    (h : numK H.length (fun N => k (.v (.int .u32 (moreL 0 (l.take n)))) (putAll H σ (List.map (Chunk.ren (fren σ N)) [.blk 22 (.recs 1 1 (fun _ => [.s 1 0 1 n c])) 1, .blk 5 (.ints .u8 l) c])))) : CallP Go.Proofs.Try.prog 110 avs H k :=
  CallP.mk ⟨_, sum2_K.real, Con.spec sum2_K, (l, n, c), σ, ⟨h0, hn, hc, ha⟩, h⟩
/-- Parts, joined. -/
def partsC (g : Bool) (ps : List (List Int)) : Cont := .recs 1 ps.length (fun i => [.im g 1 (ps.getD i []).length (.ints .u8 (ps.getD i []))])
set_option maxHeartbeats 4000000 in
theorem join_c (ps : List (List Int)) (k : K) (h0 : ps.flatten.length ≤ 1099511627776 ∧ ps.length ≤ 1099511627776) (hk : ∀ l, l = ps.flatten → k (.im true 1 l.length (.ints .u8 l)) []) : evFunc tab [] [] Go.Proofs.Try.f130 [.im false 1 ps.length (partsC false ps)] [] k := by
  repeat' (first
 | (with_reducible first | exact True.intro | apply And.intro | apply If_true | apply If_false | apply If_not)
 | ((with_reducible apply VC.mk); (first | trivial | omega | (simp only [inR]; omega) | (exact ⟨rfl, List.prefix_rfl⟩) | (refine ⟨rfl, rfl, rfl, ?_, rfl⟩; (simp; done)) | (focus (repeat' (first | exact True.intro | apply And.intro | rfl | exact Nat.le_of_ble_eq_true rfl)); done) | (simp [inR, Cont.cells]; done) | (simp [inR, Cont.cells]; omega)))
 | ((with_reducible apply If_dec) <;> intro hc <;> (try (exfalso; omega)))
 | ((with_reducible apply If_any) <;> intro hc)
 | ((with_reducible first | apply PF.mk | apply DrawP.mk); (focus kernel_rfl))
 | ((with_reducible apply Same.mk); (focus rfl); (first | exact trivial | exact rfl))
 | (intro cap hcap)
 | ((fail_if_success (with_reducible first | apply Fin.mk | apply CallP.mk | apply LoopP.mk | apply VC.mk | apply falseMk | apply Round.mk | apply Eq.symm)); conv => whnf))
  refine LoopP.mk ⟨Nat × List Int × Nat, fun y => y.1 ≤ ps.length ∧ y.2.1 = (ps.take y.1).flatten, fun y => ([(3, .s 0 0 1 y.2.1.length y.2.2), (6, .im false 1 ps.length (partsC false ps)), (7, .v (.int .i64 ps.length)), (8, .v (.int .i64 y.1))], [.blk 5 (.ints .u8 y.2.1) y.2.2]), fun y => ps.length - y.1, (0, [], 0), ⟨Nat.zero_le _, rfl⟩, Fit.ren [0] [] rfl rfl trivial ?_ ?_, ?_⟩
  · repeat' (first
 | (with_reducible first | exact True.intro | apply And.intro | apply If_true | apply If_false | apply If_not)
 | ((with_reducible apply VC.mk); (first | trivial | omega | (simp only [inR]; omega) | (exact ⟨rfl, List.prefix_rfl⟩) | (refine ⟨rfl, rfl, rfl, ?_, rfl⟩; (simp; done)) | (focus (repeat' (first | exact True.intro | apply And.intro | rfl | exact Nat.le_of_ble_eq_true rfl)); done) | (simp [inR, Cont.cells]; done) | (simp [inR, Cont.cells]; omega)))
 | ((with_reducible apply If_dec) <;> intro hc <;> (try (exfalso; omega)))
 | ((with_reducible apply If_any) <;> intro hc)
 | ((with_reducible first | apply PF.mk | apply DrawP.mk); (focus kernel_rfl))
 | ((with_reducible apply Same.mk); (focus rfl); (first | exact trivial | exact rfl))
 | (intro cap hcap)
 | ((fail_if_success (with_reducible first | apply Fin.mk | apply CallP.mk | apply LoopP.mk | apply VC.mk | apply falseMk | apply Round.mk | apply Eq.symm)); conv => whnf))
  · repeat' (first
 | (with_reducible first | exact True.intro | apply And.intro | apply If_true | apply If_false | apply If_not)
 | ((with_reducible apply VC.mk); (first | trivial | omega | (simp only [inR]; omega) | (exact ⟨rfl, List.prefix_rfl⟩) | (refine ⟨rfl, rfl, rfl, ?_, rfl⟩; (simp; done)) | (focus (repeat' (first | exact True.intro | apply And.intro | rfl | exact Nat.le_of_ble_eq_true rfl)); done) | (simp [inR, Cont.cells]; done) | (simp [inR, Cont.cells]; omega)))
 | ((with_reducible apply If_dec) <;> intro hc <;> (try (exfalso; omega)))
 | ((with_reducible apply If_any) <;> intro hc)
 | ((with_reducible first | apply PF.mk | apply DrawP.mk); (focus kernel_rfl))
 | ((with_reducible apply Same.mk); (focus rfl); (first | exact trivial | exact rfl))
 | (intro cap hcap)
 | ((fail_if_success (with_reducible first | apply Fin.mk | apply CallP.mk | apply LoopP.mk | apply VC.mk | apply falseMk | apply Round.mk | apply Eq.symm)); conv => whnf))
  · intro y hy
    obtain ⟨g1, g2⟩ := hy
    have e : ((y.1 : Nat) : Int).toNat = y.1 := Int.toNat_natCast _
    by_cases hlt : y.1 < ps.length
    · have e2 : (ps.take (y.1 + 1)).flatten = (ps.take y.1).flatten ++ ps.getD y.1 [] := by
        rw [List.take_add_one, List.getElem?_eq_getElem hlt, List.flatten_append, List.getD_eq_getElem?_getD, List.getElem?_eq_getElem hlt]
        simp
      have e3 : ((ps.take (y.1 + 1)).flatten).length ≤ ps.flatten.length := by
        have h1 := congrArg List.length (congrArg List.flatten (List.take_append_drop (y.1 + 1) ps))
        rw [List.flatten_append, List.length_append] at h1
        omega
      have e4 := congrArg List.length e2
      rw [List.length_append, ← g2] at e4
      rw [← g2] at e2
      repeat' (first
 | (with_reducible first | exact True.intro | apply And.intro | apply If_true | apply If_false | apply If_not)
 | ((with_reducible apply VC.mk); (first | trivial | omega | (simp only [inR]; omega) | (exact ⟨rfl, List.prefix_rfl⟩) | (refine ⟨rfl, rfl, rfl, ?_, rfl⟩; (simp; done)) | (focus (repeat' (first | exact True.intro | apply And.intro | rfl | exact Nat.le_of_ble_eq_true rfl)); done) | (simp [inR, Cont.cells]; done) | (simp [inR, Cont.cells]; omega)))
 | ((with_reducible apply If_dec) <;> intro hc <;> (try (exfalso; omega)))
 | ((with_reducible apply If_any) <;> intro hc)
 | ((with_reducible first | apply PF.mk | apply DrawP.mk); (focus kernel_rfl))
 | ((with_reducible apply Same.mk); (focus rfl); (first | exact trivial | exact rfl))
 | (intro cap hcap)
 | ((fail_if_success (with_reducible first | apply Fin.mk | apply CallP.mk | apply LoopP.mk | apply VC.mk | apply falseMk | apply Round.mk | apply Eq.symm)); conv => whnf))
      · refine VC.mk ⟨⟨rfl, rfl, by simp [Cont.cells], by omega⟩, trivial, ?_, by decide, by decide⟩
        rw [e]; omega
      · refine Round.mk ⟨(y.1 + 1, y.2.1 ++ ps.getD y.1 [], cap), ⟨by show y.1 + 1 ≤ _; omega, e2.symm⟩, by show ps.length - (y.1 + 1) < ps.length - y.1; omega, Fit.ren [1] [] rfl rfl trivial ?_ ?_⟩
        · refine ⟨⟨VC.mk ⟨rfl, by show cap * 1 = cap; omega⟩, VC.mk ⟨rfl, ?_⟩⟩, trivial⟩
          rw [e]; exact List.prefix_rfl
        · repeat' (first
 | (with_reducible first | exact True.intro | apply And.intro | apply If_true | apply If_false | apply If_not)
 | ((with_reducible apply VC.mk); (first | trivial | omega | (simp only [inR]; omega) | (exact ⟨rfl, List.prefix_rfl⟩) | (refine ⟨rfl, rfl, rfl, ?_, rfl⟩; (simp; done)) | (focus (repeat' (first | exact True.intro | apply And.intro | rfl | exact Nat.le_of_ble_eq_true rfl)); done) | (simp [inR, Cont.cells]; done) | (simp [inR, Cont.cells]; omega)))
 | ((with_reducible apply If_dec) <;> intro hc <;> (try (exfalso; omega)))
 | ((with_reducible apply If_any) <;> intro hc)
 | ((with_reducible first | apply PF.mk | apply DrawP.mk); (focus kernel_rfl))
 | ((with_reducible apply Same.mk); (focus rfl); (first | exact trivial | exact rfl))
 | (intro cap hcap)
 | ((fail_if_success (with_reducible first | apply Fin.mk | apply CallP.mk | apply LoopP.mk | apply VC.mk | apply falseMk | apply Round.mk | apply Eq.symm)); conv => whnf))
          all_goals (refine VC.mk ⟨rfl, rfl, rfl, ?_, rfl⟩; rw [e]; simp)
    · repeat' (first
 | (with_reducible first | exact True.intro | apply And.intro | apply If_true | apply If_false | apply If_not)
 | ((with_reducible apply VC.mk); (first | trivial | omega | (simp only [inR]; omega) | (exact ⟨rfl, List.prefix_rfl⟩) | (refine ⟨rfl, rfl, rfl, ?_, rfl⟩; (simp; done)) | (focus (repeat' (first | exact True.intro | apply And.intro | rfl | exact Nat.le_of_ble_eq_true rfl)); done) | (simp [inR, Cont.cells]; done) | (simp [inR, Cont.cells]; omega)))
 | ((with_reducible apply If_dec) <;> intro hc <;> (try (exfalso; omega)))
 | ((with_reducible apply If_any) <;> intro hc)
 | ((with_reducible first | apply PF.mk | apply DrawP.mk); (focus kernel_rfl))
 | ((with_reducible apply Same.mk); (focus rfl); (first | exact trivial | exact rfl))
 | (intro cap hcap)
 | ((fail_if_success (with_reducible first | apply Fin.mk | apply CallP.mk | apply LoopP.mk | apply VC.mk | apply falseMk | apply Round.mk | apply Eq.symm)); conv => whnf))
      have e5 : ps.take y.1 = ps := List.take_of_length_le (by omega)
      rw [e5] at g2
      exact Fin.frz rfl rfl (hk _ g2)
theorem join_K : ConOk Go.Proofs.Try.prog 130 (Con.of (List (List Int)) (List Int) (fun ps => [.im false 1 ps.length (partsC false ps)]) (fun _ => []) (fun ps => ps.flatten.length ≤ 1099511627776 ∧ ps.length ≤ 1099511627776) (fun ps l => l = ps.flatten) (fun _ l => .im true 1 l.length (.ints .u8 l)) (fun _ _ => [])) :=
  conOk_rel (T := tab) mix Go.Proofs.Try.func130 (by decide +kernel) (by kernel_rfl) [] [] (fun n => by rw [Go.Proofs.Try.ntmps130]; exact Nat.le_of_ble_eq_true rfl) (fun n z _ _ => ⟨⟨rfl, trivial⟩, (fun c hc => by cases hc), Nat.le_refl _⟩) (fun n _ c hc => by cases hc) (fun ps k h0 hk => join_c ps k h0 (fun l hl => hk l hl))
theorem join_at {avs : List AV} {H : List Chunk} {k : K} (ps : List (List Int)) (h0 : ps.flatten.length ≤ 1099511627776 ∧ ps.length ≤ 1099511627776) (ha : argsM H [] [.im false 1 ps.length (partsC false ps)] avs) (h : ∀ l, l = ps.flatten → k (.im true 1 l.length (.ints .u8 l)) H) : CallP Go.Proofs.Try.prog 130 avs H k :=
  CallP.mk ⟨_, join_K.real, Con.spec join_K, ps, [], ⟨h0, rfl, trivial, ha⟩, fun l hl => (numK_eq H.length (fun N => k (AV.ren (fren [] N) (.im true 1 l.length (.ints .u8 l))) (putAll H [] []))).mpr (by simpa [putAll, AV.ren, Cont.ren] using h l hl)⟩
end Go.Proofs.Ytjccknmgmommcaa.Sx

