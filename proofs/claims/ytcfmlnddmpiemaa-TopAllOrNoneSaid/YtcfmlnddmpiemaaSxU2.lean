import Derived.Test.YtcfmlnddmpiemaaSxEc
import Derived.Test.YtcfmlnddmpiemaaSxU1
set_option linter.unusedVariables false
set_option linter.unusedSimpArgs false
set_option maxRecDepth 10000
namespace Go.Proofs.Ytcfmlnddmpiemaa.Sx
open Go.RowKit Go.Proofs.Ytcfmlnddmpiemaa.Sx.Tb
/-! ### Bytes: a part, noughts, sums -/
theorem oslice_c (l : List Int) (p n : Int) (k : K) (h0 : l.length ≤ 1099511627776 ∧ p ≤ 1099511627776 ∧ n ≤ 1099511627776)
    (hk : ∀ (m : List Int) (b : Bool), ((0 ≤ p ∧ 0 ≤ n ∧ p + n ≤ l.length) ∧ b = true ∧ m = (l.drop p.toNat).take n.toNat ∨ ¬ (0 ≤ p ∧ 0 ≤ n ∧ p + n ≤ l.length) ∧ b = false ∧ m = []) → k (.tup [.im true 1 m.length (.ints .u8 m), .v (.bool b)]) []) :
    evFunc tab [] [] Go.Proofs.Try.f49 [.im false 1 l.length (.ints .u8 l), .v (.int .i64 p), .v (.int .i64 n)] [] k := by
  repeat' (first
    | (with_reducible first | exact True.intro | apply And.intro | apply If_true | apply If_false | apply If_not)
    | ((with_reducible apply VC.mk); exact vt)
    | ((with_reducible apply If_dec) <;> intro hc <;> (try (exfalso; omega)))
    | ((with_reducible apply If_any) <;> intro hc)
    | ((with_reducible first | apply PF.mk | apply DrawP.mk); (focus kernel_rfl))
    | ((with_reducible apply Same.mk); (focus rfl); (first | exact trivial | exact rfl))
    | (intro cap hcap)
    | ((fail_if_success (with_reducible apply st)); conv => whnf))
  refine oin_at l p n h0.1 ⟨⟨rfl, rfl, rfl⟩, rfl, rfl, trivial⟩ ?_
  intro r hr
  by_cases hin : 0 ≤ p ∧ 0 ≤ n ∧ p + n ≤ l.length
  · have hr : r = true := hr.2 hin
    subst hr
    repeat' (first
    | (with_reducible first | exact True.intro | apply And.intro | apply If_true | apply If_false | apply If_not)
    | ((with_reducible apply VC.mk); exact vt)
    | ((with_reducible apply If_dec) <;> intro hc <;> (try (exfalso; omega)))
    | ((with_reducible apply If_any) <;> intro hc)
    | ((with_reducible first | apply PF.mk | apply DrawP.mk); (focus kernel_rfl))
    | ((with_reducible apply Same.mk); (focus rfl); (first | exact trivial | exact rfl))
    | (intro cap hcap)
    | ((fail_if_success (with_reducible apply st)); conv => whnf))
    refine Fin.ren [] [0] (.tup [.im true 1 ((l.drop p.toNat).take n.toNat).length (.ints .u8 ((l.drop p.toNat).take n.toNat)), .v (.bool true)]) [] rfl rfl ⟨trivial, trivial⟩ trivial ?_ (hk _ true (.inl ⟨hin, rfl, rfl⟩))
    repeat' (first
    | (with_reducible first | exact True.intro | apply And.intro | apply If_true | apply If_false | apply If_not)
    | ((with_reducible apply VC.mk); exact vt)
    | ((with_reducible apply If_dec) <;> intro hc <;> (try (exfalso; omega)))
    | ((with_reducible apply If_any) <;> intro hc)
    | ((with_reducible first | apply PF.mk | apply DrawP.mk); (focus kernel_rfl))
    | ((with_reducible apply Same.mk); (focus rfl); (first | exact trivial | exact rfl))
    | (intro cap hcap)
    | ((fail_if_success (with_reducible apply st)); conv => whnf))
    · refine VC.mk ⟨rfl, ?_⟩
      rw [List.drop_zero, List.take_take, Nat.min_self, show (p + n).toNat - p.toNat = n.toNat by omega]
  · have hr : r = false := by
      cases r
      · rfl
      · exact absurd (hr.1 rfl) hin
    subst hr
    repeat' (first
    | (with_reducible first | exact True.intro | apply And.intro | apply If_true | apply If_false | apply If_not)
    | ((with_reducible apply VC.mk); exact vt)
    | ((with_reducible apply If_dec) <;> intro hc <;> (try (exfalso; omega)))
    | ((with_reducible apply If_any) <;> intro hc)
    | ((with_reducible first | apply PF.mk | apply DrawP.mk); (focus kernel_rfl))
    | ((with_reducible apply Same.mk); (focus rfl); (first | exact trivial | exact rfl))
    | (intro cap hcap)
    | ((fail_if_success (with_reducible apply st)); conv => whnf))
    refine Fin.ren [] [] (.tup [.im true 1 0 (.ints .u8 []), .v (.bool false)]) [] rfl rfl trivial trivial ?_ (hk [] false (.inr ⟨hin, rfl, rfl⟩))
    repeat' (first
    | (with_reducible first | exact True.intro | apply And.intro | apply If_true | apply If_false | apply If_not)
    | ((with_reducible apply VC.mk); exact vt)
    | ((with_reducible apply If_dec) <;> intro hc <;> (try (exfalso; omega)))
    | ((with_reducible apply If_any) <;> intro hc)
    | ((with_reducible first | apply PF.mk | apply DrawP.mk); (focus kernel_rfl))
    | ((with_reducible apply Same.mk); (focus rfl); (first | exact trivial | exact rfl))
    | (intro cap hcap)
    | ((fail_if_success (with_reducible apply st)); conv => whnf))
theorem ozero_c (l : List Int) (k : K) (h0 : l.length ≤ 1099511627776) (hk : ∀ b : Bool, (b = true ↔ ∀ i, i < l.length → l.getD i 0 = 0) → k (.v (.bool b)) []) : evFunc tab [] [] Go.Proofs.Try.f103 [.im false 1 l.length (.ints .u8 l)] [] k := by
  repeat' (first
    | (with_reducible first | exact True.intro | apply And.intro | apply If_true | apply If_false | apply If_not)
    | ((with_reducible apply VC.mk); exact vt)
    | ((with_reducible apply If_dec) <;> intro hc <;> (try (exfalso; omega)))
    | ((with_reducible apply If_any) <;> intro hc)
    | ((with_reducible first | apply PF.mk | apply DrawP.mk); (focus kernel_rfl))
    | ((with_reducible apply Same.mk); (focus rfl); (first | exact trivial | exact rfl))
    | (intro cap hcap)
    | ((fail_if_success (with_reducible apply st)); conv => whnf))
  refine LoopP.mk ⟨Nat, fun y => y ≤ l.length ∧ ∀ i, i < y → l.getD i 0 = 0, fun y => ([(5, .im false 1 l.length (.ints .u8 l)), (6, .v (.int .i64 l.length)), (7, .v (.int .i64 y))], []), fun y => l.length - y, 0, ⟨Nat.zero_le _, fun i hi => absurd hi (Nat.not_lt_zero _)⟩, Fit.ren [] [] rfl rfl trivial trivial ?_, ?_⟩
  · repeat' (first
    | (with_reducible first | exact True.intro | apply And.intro | apply If_true | apply If_false | apply If_not)
    | ((with_reducible apply VC.mk); exact vt)
    | ((with_reducible apply If_dec) <;> intro hc <;> (try (exfalso; omega)))
    | ((with_reducible apply If_any) <;> intro hc)
    | ((with_reducible first | apply PF.mk | apply DrawP.mk); (focus kernel_rfl))
    | ((with_reducible apply Same.mk); (focus rfl); (first | exact trivial | exact rfl))
    | (intro cap hcap)
    | ((fail_if_success (with_reducible apply st)); conv => whnf))
  · intro y hy
    obtain ⟨g1, g2⟩ := hy
    have e : ((y : Nat) : Int).toNat = y := Int.toNat_natCast _
    repeat' (first
    | (with_reducible first | exact True.intro | apply And.intro | apply If_true | apply If_false | apply If_not)
    | ((with_reducible apply VC.mk); exact vt)
    | ((with_reducible apply If_dec) <;> intro hc <;> (try (exfalso; omega)))
    | ((with_reducible apply If_any) <;> intro hc)
    | ((with_reducible first | apply PF.mk | apply DrawP.mk); (focus kernel_rfl))
    | ((with_reducible apply Same.mk); (focus rfl); (first | exact trivial | exact rfl))
    | (intro cap hcap)
    | ((fail_if_success (with_reducible apply st)); conv => whnf))
    · rw [e] at hc
      exact Fin.same (hk false ⟨fun h => (by cases h), fun h => absurd (h y (by omega)) hc⟩)
    · rw [e] at hc
      refine Round.mk ⟨y + 1, ⟨by show y + 1 ≤ _; omega, fun i hi => ?_⟩, by show l.length - (y + 1) < l.length - y; omega, Fit.ren [] [] rfl rfl trivial trivial ?_⟩
      · by_cases h : i = y
        · subst h; omega
        · exact g2 i (by omega)
      · repeat' (first
    | (with_reducible first | exact True.intro | apply And.intro | apply If_true | apply If_false | apply If_not)
    | ((with_reducible apply VC.mk); exact vt)
    | ((with_reducible apply If_dec) <;> intro hc <;> (try (exfalso; omega)))
    | ((with_reducible apply If_any) <;> intro hc)
    | ((with_reducible first | apply PF.mk | apply DrawP.mk); (focus kernel_rfl))
    | ((with_reducible apply Same.mk); (focus rfl); (first | exact trivial | exact rfl))
    | (intro cap hcap)
    | ((fail_if_success (with_reducible apply st)); conv => whnf))
    · exact Fin.same (hk true ⟨fun _ i hi => g2 i (by omega), fun _ => rfl⟩)
theorem oslice_K : ConOk Go.Proofs.Try.prog 49 (Con.of (List Int × Int × Int) (List Int × Bool) (fun (l, p, n) => [.im false 1 l.length (.ints .u8 l), .v (.int .i64 p), .v (.int .i64 n)]) (fun _ => []) (fun (l, p, n) => l.length ≤ 1099511627776 ∧ p ≤ 1099511627776 ∧ n ≤ 1099511627776) (fun (l, p, n) (m, b) => ((0 ≤ p ∧ 0 ≤ n ∧ p + n ≤ l.length) ∧ b = true ∧ m = (l.drop p.toNat).take n.toNat ∨ ¬ (0 ≤ p ∧ 0 ≤ n ∧ p + n ≤ l.length) ∧ b = false ∧ m = [])) (fun _ (m, b) => .tup [.im true 1 m.length (.ints .u8 m), .v (.bool b)]) (fun _ _ => [])) :=
  conOk_rel (T := tab) mix Go.Proofs.Try.func49 (by decide +kernel) (by kernel_rfl) [] [] (fun n => by rw [Go.Proofs.Try.ntmps49]; exact Nat.le_of_ble_eq_true rfl) (fun n z _ _ => ⟨⟨⟨rfl, trivial⟩, trivial, trivial⟩, (fun c hc => by cases hc), Nat.le_refl _⟩) (fun n _ c hc => by cases hc) (fun (l, p, n) k h0 hk => oslice_c l p n k h0 (fun m b hr => hk (m, b) hr))
theorem oslice_at {avs : List AV} {H : List Chunk} {k : K} (l : List Int) (p n : Int) (h0 : l.length ≤ 1099511627776 ∧ p ≤ 1099511627776 ∧ n ≤ 1099511627776) (ha : argsM H [] [.im false 1 l.length (.ints .u8 l), .v (.int .i64 p), .v (.int .i64 n)] avs)
    (h : ∀ (m : List Int) (b : Bool), ((0 ≤ p ∧ 0 ≤ n ∧ p + n ≤ l.length) ∧ b = true ∧ m = (l.drop p.toNat).take n.toNat ∨ ¬ (0 ≤ p ∧ 0 ≤ n ∧ p + n ≤ l.length) ∧ b = false ∧ m = []) → k (.tup [.im true 1 m.length (.ints .u8 m), .v (.bool b)]) H) : CallP Go.Proofs.Try.prog 49 avs H k :=
  CallP.mk ⟨_, oslice_K.real, Con.spec oslice_K, (l, p, n), [], ⟨h0, rfl, trivial, ha⟩, fun (m, b) hr => (numK_eq H.length (fun N => k (AV.ren (fren [] N) (.tup [.im true 1 m.length (.ints .u8 m), .v (.bool b)])) (putAll H [] []))).mpr (by simpa [putAll, AV.ren, rens, Cont.ren] using h m b hr)⟩
theorem ozero_K : ConOk Go.Proofs.Try.prog 103 (Con.of (List Int) Bool (fun l => [.im false 1 l.length (.ints .u8 l)]) (fun _ => []) (fun l => l.length ≤ 1099511627776) (fun l b => (b = true ↔ ∀ i, i < l.length → l.getD i 0 = 0)) (fun _ b => .v (.bool b)) (fun _ _ => [])) :=
  conOk_rel (T := tab) mix Go.Proofs.Try.func103 (by decide +kernel) (by kernel_rfl) [] [] (fun n => by rw [Go.Proofs.Try.ntmps103]; exact Nat.le_of_ble_eq_true rfl) (fun n z _ _ => ⟨trivial, (fun c hc => by cases hc), Nat.le_refl _⟩) (fun n _ c hc => by cases hc) (fun l k h0 hk => ozero_c l k h0 (fun b hr => hk b hr))
theorem ozero_at {avs : List AV} {H : List Chunk} {k : K} (l : List Int) (h0 : l.length ≤ 1099511627776) (ha : argsM H [] [.im false 1 l.length (.ints .u8 l)] avs) (h : ∀ b : Bool, (b = true ↔ ∀ i, i < l.length → l.getD i 0 = 0) → k (.v (.bool b)) H) : CallP Go.Proofs.Try.prog 103 avs H k :=
  CallP.mk ⟨_, ozero_K.real, Con.spec ozero_K, l, [], ⟨h0, rfl, trivial, ha⟩, fun b hr => (numK_eq H.length (fun N => k (AV.ren (fren [] N) (.v (.bool b))) (putAll H [] []))).mpr (by simpa [putAll, AV.ren] using h b hr)⟩
/-- The sum's step. -/
def crc1 (s : Int) : Int := if Go.bits .and .u32 s 1 = 1 then Go.bits .xor .u32 (s / 2) 3988292384 else s / 2
def crcN : Nat → Int → Int
  | 0, s => s
  | n + 1, s => crcN n (crc1 s)
def crcStep (s c : Int) : Int := crcN 8 (Go.bits .xor .u32 s c)
def R32 (x : Int) : Prop := 0 ≤ x ∧ x < 4294967296
theorem bits32 (op : BinOp) (a b : Int) : R32 (Go.bits op .u32 a b) := by
  unfold Go.bits R32
  simp only
  rw [wu32]
  omega
theorem crc1_R {s : Int} (h : R32 s) : R32 (crc1 s) := by
  unfold crc1
  split
  · exact bits32 _ _ _
  · unfold R32 at *; omega
theorem crcN_R : ∀ (n : Nat) {s : Int}, R32 s → R32 (crcN n s)
  | 0, s, h => h
  | n + 1, s, h => crcN_R n (crc1_R h)
theorem crcStep_R (s c : Int) : R32 (crcStep s c) := crcN_R 8 (bits32 _ _ _)
set_option maxHeartbeats 4000000 in
theorem step_c (s c : Int) (k : K) (h0 : R32 s ∧ 0 ≤ c ∧ c < 256) (hk : k (.v (.int .u32 (crcStep s c))) []) : evFunc tab [] [] Go.Proofs.Try.f105 [.v (.int .u32 s), .v (.int .u8 c)] [] k := by
  repeat' (first
    | (with_reducible first | exact True.intro | apply And.intro | apply If_true | apply If_false | apply If_not)
    | ((with_reducible apply VC.mk); exact vt)
    | ((with_reducible apply If_dec) <;> intro hc <;> (try (exfalso; omega)))
    | ((with_reducible apply If_any) <;> intro hc)
    | ((with_reducible first | apply PF.mk | apply DrawP.mk); (focus kernel_rfl))
    | ((with_reducible apply Same.mk); (focus rfl); (first | exact trivial | exact rfl))
    | (intro cap hcap)
    | ((fail_if_success (with_reducible apply st)); conv => whnf))
  refine LoopP.mk ⟨Nat × Int, fun y => y.1 ≤ 8 ∧ R32 y.2 ∧ crcN (8 - y.1) y.2 = crcStep s c, fun y => ([(0, .v (.int .u32 y.2)), (9, .v (.int .i64 y.1))], []), fun y => 8 - y.1, (0, Go.bits .xor .u32 s c), ⟨Nat.zero_le _, bits32 .xor s c, rfl⟩, Fit.ren [] [] rfl rfl trivial trivial ?_, ?_⟩
  · repeat' (first
    | (with_reducible first | exact True.intro | apply And.intro | apply If_true | apply If_false | apply If_not)
    | ((with_reducible apply VC.mk); exact vt)
    | ((with_reducible apply If_dec) <;> intro hc <;> (try (exfalso; omega)))
    | ((with_reducible apply If_any) <;> intro hc)
    | ((with_reducible first | apply PF.mk | apply DrawP.mk); (focus kernel_rfl))
    | ((with_reducible apply Same.mk); (focus rfl); (first | exact trivial | exact rfl))
    | (intro cap hcap)
    | ((fail_if_success (with_reducible apply st)); conv => whnf))
  · intro y hy
    obtain ⟨g1, g2, g3⟩ := hy
    have e2 : y.2 / 2 ^ min (Int.toNat 1) 32 = y.2 / 2 := rfl
    have e3 : 8 - y.1 = (8 - (y.1 + 1)) + 1 ∨ ¬ (y.1 : Int) < 8 := by omega
    repeat' (first
    | (with_reducible first | exact True.intro | apply And.intro | apply If_true | apply If_false | apply If_not)
    | ((with_reducible apply VC.mk); exact vt)
    | ((with_reducible apply If_dec) <;> intro hc <;> (try (exfalso; omega)))
    | ((with_reducible apply If_any) <;> intro hc)
    | ((with_reducible first | apply PF.mk | apply DrawP.mk); (focus kernel_rfl))
    | ((with_reducible apply Same.mk); (focus rfl); (first | exact trivial | exact rfl))
    | (intro cap hcap)
    | ((fail_if_success (with_reducible apply st)); conv => whnf))
    · rcases e3 with e3 | e3
      case inr => exact absurd (by omega) e3
      rw [e3, crcN] at g3
      have e4 : crc1 y.2 = Go.bits .xor .u32 (y.2 / 2) 3988292384 := if_pos hc
      refine Round.mk ⟨(y.1 + 1, crc1 y.2), ⟨by show y.1 + 1 ≤ _; omega, crc1_R g2, g3⟩, by show 8 - (y.1 + 1) < 8 - y.1; omega, Fit.ren [] [] rfl rfl trivial trivial ?_⟩
      repeat' (first
    | (with_reducible first | exact True.intro | apply And.intro | apply If_true | apply If_false | apply If_not)
    | ((with_reducible apply VC.mk); exact vt)
    | ((with_reducible apply If_dec) <;> intro hc <;> (try (exfalso; omega)))
    | ((with_reducible apply If_any) <;> intro hc)
    | ((with_reducible first | apply PF.mk | apply DrawP.mk); (focus kernel_rfl))
    | ((with_reducible apply Same.mk); (focus rfl); (first | exact trivial | exact rfl))
    | (intro cap hcap)
    | ((fail_if_success (with_reducible apply st)); conv => whnf))
      all_goals (refine VC.mk ?_; exact congrArg (Value.int .u32) e4.symm)
    · rcases e3 with e3 | e3
      case inr => exact absurd (by omega) e3
      rw [e3, crcN] at g3
      have e4 : crc1 y.2 = y.2 / 2 := if_neg hc
      refine Round.mk ⟨(y.1 + 1, crc1 y.2), ⟨by show y.1 + 1 ≤ _; omega, crc1_R g2, g3⟩, by show 8 - (y.1 + 1) < 8 - y.1; omega, Fit.ren [] [] rfl rfl trivial trivial ?_⟩
      repeat' (first
    | (with_reducible first | exact True.intro | apply And.intro | apply If_true | apply If_false | apply If_not)
    | ((with_reducible apply VC.mk); exact vt)
    | ((with_reducible apply If_dec) <;> intro hc <;> (try (exfalso; omega)))
    | ((with_reducible apply If_any) <;> intro hc)
    | ((with_reducible first | apply PF.mk | apply DrawP.mk); (focus kernel_rfl))
    | ((with_reducible apply Same.mk); (focus rfl); (first | exact trivial | exact rfl))
    | (intro cap hcap)
    | ((fail_if_success (with_reducible apply st)); conv => whnf))
      all_goals (refine VC.mk ?_; exact congrArg (Value.int .u32) e4.symm)
    · rw [show 8 - y.1 = 0 by omega, crcN] at g3
      rw [g3]
      exact Fin.same hk
theorem step_K : ConOk Go.Proofs.Try.prog 105 (Con.fn (Int × Int) (fun x => [.v (.int .u32 x.1), .v (.int .u8 x.2)]) (fun _ => []) (fun x => R32 x.1 ∧ 0 ≤ x.2 ∧ x.2 < 256) (fun x => .v (.int .u32 (crcStep x.1 x.2))) (fun _ => [])) :=
  conOk_fn (T := tab) mix Go.Proofs.Try.func105 (by decide +kernel) (by kernel_rfl) [] [] (fun n => by rw [Go.Proofs.Try.ntmps105]; exact Nat.le_of_ble_eq_true rfl) (fun n _ => ⟨trivial, (fun c hc => by cases hc), Nat.le_refl _⟩) (fun n _ c hc => by cases hc) (fun x k h0 hk => step_c x.1 x.2 k h0 hk)
theorem step_at {avs : List AV} {H : List Chunk} {k : K} (s c : Int) (h0 : R32 s ∧ 0 ≤ c ∧ c < 256) (ha : argsM H [] [.v (.int .u32 s), .v (.int .u8 c)] avs) (h : k (.v (.int .u32 (crcStep s c))) H) : CallP Go.Proofs.Try.prog 105 avs H k :=
  CallP.mk ⟨_, step_K.real, Con.spec step_K, (s, c), [], ⟨h0, rfl, trivial, ha⟩, (numK_eq H.length (fun N => k (AV.ren (fren [] N) (.v (.int .u32 (crcStep s c)))) (putAll H [] []))).mpr (by simpa [putAll, AV.ren] using h)⟩
def crcNot (s : Int) : Int := Go.bits .xor .u32 (if IntKind.u32.signed = true then -1 else IntKind.u32.max) s
def moreL (s : Int) (l : List Int) : Int := crcNot (l.foldl crcStep (crcNot s))
theorem crcNot_R (s : Int) : R32 (crcNot s) := bits32 _ _ _
theorem moreL_R (s : Int) (l : List Int) : R32 (moreL s l) := crcNot_R _
set_option maxHeartbeats 4000000 in
theorem more_c (s : Int) (l : List Int) (k : K) (h0 : R32 s ∧ B8 l ∧ l.length ≤ 1099511627776) (hk : k (.v (.int .u32 (moreL s l))) []) : evFunc tab [] [] Go.Proofs.Try.f83 [.v (.int .u32 s), .im false 1 l.length (.ints .u8 l)] [] k := by
  repeat' (first
    | (with_reducible first | exact True.intro | apply And.intro | apply If_true | apply If_false | apply If_not)
    | ((with_reducible apply VC.mk); exact vt)
    | ((with_reducible apply If_dec) <;> intro hc <;> (try (exfalso; omega)))
    | ((with_reducible apply If_any) <;> intro hc)
    | ((with_reducible first | apply PF.mk | apply DrawP.mk); (focus kernel_rfl))
    | ((with_reducible apply Same.mk); (focus rfl); (first | exact trivial | exact rfl))
    | (intro cap hcap)
    | ((fail_if_success (with_reducible apply st)); conv => whnf))
  refine LoopP.mk ⟨Nat × Int, fun y => y.1 ≤ l.length ∧ R32 y.2 ∧ y.2 = (l.take y.1).foldl crcStep (crcNot s), fun y => ([(0, .v (.int .u32 y.2)), (9, .im false 1 l.length (.ints .u8 l)), (10, .v (.int .i64 l.length)), (11, .v (.int .i64 y.1))], []), fun y => l.length - y.1, (0, crcNot s), ⟨Nat.zero_le _, crcNot_R s, rfl⟩, Fit.ren [] [] rfl rfl trivial trivial ?_, ?_⟩
  · repeat' (first
    | (with_reducible first | exact True.intro | apply And.intro | apply If_true | apply If_false | apply If_not)
    | ((with_reducible apply VC.mk); exact vt)
    | ((with_reducible apply If_dec) <;> intro hc <;> (try (exfalso; omega)))
    | ((with_reducible apply If_any) <;> intro hc)
    | ((with_reducible first | apply PF.mk | apply DrawP.mk); (focus kernel_rfl))
    | ((with_reducible apply Same.mk); (focus rfl); (first | exact trivial | exact rfl))
    | (intro cap hcap)
    | ((fail_if_success (with_reducible apply st)); conv => whnf))
  · intro y hy
    obtain ⟨g1, g2, g3⟩ := hy
    have e : ((y.1 : Nat) : Int).toNat = y.1 := Int.toNat_natCast _
    repeat' (first
    | (with_reducible first | exact True.intro | apply And.intro | apply If_true | apply If_false | apply If_not)
    | ((with_reducible apply VC.mk); exact vt)
    | ((with_reducible apply If_dec) <;> intro hc <;> (try (exfalso; omega)))
    | ((with_reducible apply If_any) <;> intro hc)
    | ((with_reducible first | apply PF.mk | apply DrawP.mk); (focus kernel_rfl))
    | ((with_reducible apply Same.mk); (focus rfl); (first | exact trivial | exact rfl))
    | (intro cap hcap)
    | ((fail_if_success (with_reducible apply st)); conv => whnf))
    · refine step_at y.2 (l.getD ((y.1 : Nat) : Int).toNat 0) ⟨g2, h0.2.1.getD _⟩ ⟨rfl, rfl, trivial⟩ ?_
      rw [e]
      have hlt : y.1 < l.length := by omega
      repeat' (first
    | (with_reducible first | exact True.intro | apply And.intro | apply If_true | apply If_false | apply If_not)
    | ((with_reducible apply VC.mk); exact vt)
    | ((with_reducible apply If_dec) <;> intro hc <;> (try (exfalso; omega)))
    | ((with_reducible apply If_any) <;> intro hc)
    | ((with_reducible first | apply PF.mk | apply DrawP.mk); (focus kernel_rfl))
    | ((with_reducible apply Same.mk); (focus rfl); (first | exact trivial | exact rfl))
    | (intro cap hcap)
    | ((fail_if_success (with_reducible apply st)); conv => whnf))
      refine Round.mk ⟨(y.1 + 1, crcStep y.2 (l.getD y.1 0)), ⟨by show y.1 + 1 ≤ _; omega, crcStep_R _ _, ?_⟩, by show l.length - (y.1 + 1) < l.length - y.1; omega, Fit.ren [] [] rfl rfl trivial trivial ?_⟩
      · rw [List.take_add_one, List.getElem?_eq_getElem hlt, List.foldl_append, ← g3, List.getD_eq_getElem?_getD, List.getElem?_eq_getElem hlt]
        rfl
      · repeat' (first
    | (with_reducible first | exact True.intro | apply And.intro | apply If_true | apply If_false | apply If_not)
    | ((with_reducible apply VC.mk); exact vt)
    | ((with_reducible apply If_dec) <;> intro hc <;> (try (exfalso; omega)))
    | ((with_reducible apply If_any) <;> intro hc)
    | ((with_reducible first | apply PF.mk | apply DrawP.mk); (focus kernel_rfl))
    | ((with_reducible apply Same.mk); (focus rfl); (first | exact trivial | exact rfl))
    | (intro cap hcap)
    | ((fail_if_success (with_reducible apply st)); conv => whnf))
    · have e2 : (l.take y.1) = l := List.take_of_length_le (by omega)
      rw [e2] at g3
      rw [g3]
      exact Fin.same hk
theorem more_K : ConOk Go.Proofs.Try.prog 83 (Con.fn (Int × List Int) (fun (s, l) => [.v (.int .u32 s), .im false 1 l.length (.ints .u8 l)]) (fun _ => []) (fun (s, l) => R32 s ∧ B8 l ∧ l.length ≤ 1099511627776) (fun (s, l) => .v (.int .u32 (moreL s l))) (fun _ => [])) :=
  conOk_fn (T := tab) mix Go.Proofs.Try.func83 (by decide +kernel) (by kernel_rfl) [] [] (fun n => by rw [Go.Proofs.Try.ntmps83]; exact Nat.le_of_ble_eq_true rfl) (fun n _ => ⟨trivial, (fun c hc => by cases hc), Nat.le_refl _⟩) (fun n _ c hc => by cases hc) (fun (s, l) k h0 hk => more_c s l k h0 hk)
theorem more_at {avs : List AV} {H : List Chunk} {k : K} (s : Int) (l : List Int) (h0 : R32 s ∧ B8 l ∧ l.length ≤ 1099511627776) (ha : argsM H [] [.v (.int .u32 s), .im false 1 l.length (.ints .u8 l)] avs) (h : k (.v (.int .u32 (moreL s l))) H) : CallP Go.Proofs.Try.prog 83 avs H k :=
  CallP.mk ⟨_, more_K.real, Con.spec more_K, (s, l), [], ⟨h0, rfl, trivial, ha⟩, (numK_eq H.length (fun N => k (AV.ren (fren [] N) (.v (.int .u32 (moreL s l)))) (putAll H [] []))).mpr (by simpa [putAll, AV.ren] using h)⟩
/-- The sum of one part: lent, or the beginning of a row that is handed over. -/
def rowOf (g : Bool) (l : List Int) : Cont := .recs 1 1 (fun _ => [.im g 1 l.length (.ints .u8 l)])
set_option maxHeartbeats 4000000 in
theorem sum_c (l : List Int) (k : K) (h0 : B8 l ∧ l.length ≤ 1099511627776) (hk : k (.v (.int .u32 (moreL 0 l))) []) : evFunc tab [] [] Go.Proofs.Try.f45 [.im false 1 1 (rowOf false l)] [] k := by
  repeat' (first
    | (with_reducible first | exact True.intro | apply And.intro | apply If_true | apply If_false | apply If_not)
    | ((with_reducible apply VC.mk); exact vt)
    | ((with_reducible apply If_dec) <;> intro hc <;> (try (exfalso; omega)))
    | ((with_reducible apply If_any) <;> intro hc)
    | ((with_reducible first | apply PF.mk | apply DrawP.mk); (focus kernel_rfl))
    | ((with_reducible apply Same.mk); (focus rfl); (first | exact trivial | exact rfl))
    | (intro cap hcap)
    | ((fail_if_success (with_reducible apply st)); conv => whnf))
  refine LoopP.mk ⟨Nat, fun y => y ≤ 1, fun y => ([(3, .v (.int .u32 (if y = 0 then 0 else moreL 0 l))), (6, .im false 1 1 (rowOf false l)), (7, .v (.int .i64 1)), (8, .v (.int .i64 y))], []), fun y => 1 - y, 0, Nat.zero_le _, Fit.ren [] [] rfl rfl trivial trivial ?_, ?_⟩
  · repeat' (first
    | (with_reducible first | exact True.intro | apply And.intro | apply If_true | apply If_false | apply If_not)
    | ((with_reducible apply VC.mk); exact vt)
    | ((with_reducible apply If_dec) <;> intro hc <;> (try (exfalso; omega)))
    | ((with_reducible apply If_any) <;> intro hc)
    | ((with_reducible first | apply PF.mk | apply DrawP.mk); (focus kernel_rfl))
    | ((with_reducible apply Same.mk); (focus rfl); (first | exact trivial | exact rfl))
    | (intro cap hcap)
    | ((fail_if_success (with_reducible apply st)); conv => whnf))
  · intro y hy
    have hy : y ≤ 1 := hy
    repeat' (first
    | (with_reducible first | exact True.intro | apply And.intro | apply If_true | apply If_false | apply If_not)
    | ((with_reducible apply VC.mk); exact vt)
    | ((with_reducible apply If_dec) <;> intro hc <;> (try (exfalso; omega)))
    | ((with_reducible apply If_any) <;> intro hc)
    | ((with_reducible first | apply PF.mk | apply DrawP.mk); (focus kernel_rfl))
    | ((with_reducible apply Same.mk); (focus rfl); (first | exact trivial | exact rfl))
    | (intro cap hcap)
    | ((fail_if_success (with_reducible apply st)); conv => whnf))
    · have hy0 : y = 0 := by omega
      subst hy0
      refine more_at 0 l ⟨⟨by decide, by decide⟩, h0⟩ ⟨rfl, ⟨rfl, rfl, rfl⟩, trivial⟩ ?_
      repeat' (first
    | (with_reducible first | exact True.intro | apply And.intro | apply If_true | apply If_false | apply If_not)
    | ((with_reducible apply VC.mk); exact vt)
    | ((with_reducible apply If_dec) <;> intro hc <;> (try (exfalso; omega)))
    | ((with_reducible apply If_any) <;> intro hc)
    | ((with_reducible first | apply PF.mk | apply DrawP.mk); (focus kernel_rfl))
    | ((with_reducible apply Same.mk); (focus rfl); (first | exact trivial | exact rfl))
    | (intro cap hcap)
    | ((fail_if_success (with_reducible apply st)); conv => whnf))
      refine Round.mk ⟨1, Nat.le_refl _, by decide, Fit.ren [] [] rfl rfl trivial trivial ?_⟩
      repeat' (first
    | (with_reducible first | exact True.intro | apply And.intro | apply If_true | apply If_false | apply If_not)
    | ((with_reducible apply VC.mk); exact vt)
    | ((with_reducible apply If_dec) <;> intro hc <;> (try (exfalso; omega)))
    | ((with_reducible apply If_any) <;> intro hc)
    | ((with_reducible first | apply PF.mk | apply DrawP.mk); (focus kernel_rfl))
    | ((with_reducible apply Same.mk); (focus rfl); (first | exact trivial | exact rfl))
    | (intro cap hcap)
    | ((fail_if_success (with_reducible apply st)); conv => whnf))
    · have hy0 : y = 1 := by omega
      subst hy0
      exact Fin.same hk
theorem sum_K : ConOk Go.Proofs.Try.prog 45 (Con.fn (List Int) (fun l => [.im false 1 1 (rowOf false l)]) (fun _ => []) (fun l => B8 l ∧ l.length ≤ 1099511627776) (fun l => .v (.int .u32 (moreL 0 l))) (fun _ => [])) :=
  conOk_fn (T := tab) mix Go.Proofs.Try.func45 (by decide +kernel) (by kernel_rfl) [] [] (fun n => by rw [Go.Proofs.Try.ntmps45]; exact Nat.le_of_ble_eq_true rfl) (fun n _ => ⟨trivial, (fun c hc => by cases hc), Nat.le_refl _⟩) (fun n _ c hc => by cases hc) (fun l k h0 hk => sum_c l k h0 hk)
theorem sum_at {avs : List AV} {H : List Chunk} {k : K} (l : List Int) (h0 : B8 l ∧ l.length ≤ 1099511627776) (ha : argsM H [] [.im false 1 1 (rowOf false l)] avs) (h : k (.v (.int .u32 (moreL 0 l))) H) : CallP Go.Proofs.Try.prog 45 avs H k :=
  CallP.mk ⟨_, sum_K.real, Con.spec sum_K, l, [], ⟨h0, rfl, trivial, ha⟩, (numK_eq H.length (fun N => k (AV.ren (fren [] N) (.v (.int .u32 (moreL 0 l)))) (putAll H [] []))).mpr (by simpa [putAll, AV.ren] using h)⟩
set_option maxHeartbeats 4000000 in
theorem sum2_c (l : List Int) (n c : Nat) (k : K) (h0 : B8 l ∧ n ≤ l.length ∧ n ≤ 1099511627776) (hk : k (.v (.int .u32 (moreL 0 (l.take n)))) [.blk 29 (.recs 1 1 (fun _ => [.s 1 0 1 n c])) 1, .blk 5 (.ints .u8 l) c]) : evFunc tab [] [] Go.Proofs.Try.f45 [.s 0 0 1 1 1] [.blk 29 (.recs 1 1 (fun _ => [.s 1 0 1 n c])) 1, .blk 5 (.ints .u8 l) c] k := by
  have hl : (l.take n).length = n := by rw [List.length_take]; omega
  repeat' (first
    | (with_reducible first | exact True.intro | apply And.intro | apply If_true | apply If_false | apply If_not)
    | ((with_reducible apply VC.mk); exact vt)
    | ((with_reducible apply If_dec) <;> intro hc <;> (try (exfalso; omega)))
    | ((with_reducible apply If_any) <;> intro hc)
    | ((with_reducible first | apply PF.mk | apply DrawP.mk); (focus kernel_rfl))
    | ((with_reducible apply Same.mk); (focus rfl); (first | exact trivial | exact rfl))
    | (intro cap hcap)
    | ((fail_if_success (with_reducible apply st)); conv => whnf))
  refine LoopP.mk ⟨Nat, fun y => y ≤ 1, fun y => ([(3, .v (.int .u32 (if y = 0 then 0 else moreL 0 (l.take n)))), (6, .s 0 0 1 1 1), (7, .v (.int .i64 1)), (8, .v (.int .i64 y))], [.blk 29 (.recs 1 1 (fun _ => [.s 1 0 1 n c])) 1, .blk 5 (.ints .u8 l) c]), fun y => 1 - y, 0, Nat.zero_le _, Fit.ren [0, 1] [] rfl rfl trivial ?_ ?_, ?_⟩
  · repeat' (first
    | (with_reducible first | exact True.intro | apply And.intro | apply If_true | apply If_false | apply If_not)
    | ((with_reducible apply VC.mk); exact vt)
    | ((with_reducible apply If_dec) <;> intro hc <;> (try (exfalso; omega)))
    | ((with_reducible apply If_any) <;> intro hc)
    | ((with_reducible first | apply PF.mk | apply DrawP.mk); (focus kernel_rfl))
    | ((with_reducible apply Same.mk); (focus rfl); (first | exact trivial | exact rfl))
    | (intro cap hcap)
    | ((fail_if_success (with_reducible apply st)); conv => whnf))
  · repeat' (first
    | (with_reducible first | exact True.intro | apply And.intro | apply If_true | apply If_false | apply If_not)
    | ((with_reducible apply VC.mk); exact vt)
    | ((with_reducible apply If_dec) <;> intro hc <;> (try (exfalso; omega)))
    | ((with_reducible apply If_any) <;> intro hc)
    | ((with_reducible first | apply PF.mk | apply DrawP.mk); (focus kernel_rfl))
    | ((with_reducible apply Same.mk); (focus rfl); (first | exact trivial | exact rfl))
    | (intro cap hcap)
    | ((fail_if_success (with_reducible apply st)); conv => whnf))
  · intro y hy
    have hy : y ≤ 1 := hy
    repeat' (first
    | (with_reducible first | exact True.intro | apply And.intro | apply If_true | apply If_false | apply If_not)
    | ((with_reducible apply VC.mk); exact vt)
    | ((with_reducible apply If_dec) <;> intro hc <;> (try (exfalso; omega)))
    | ((with_reducible apply If_any) <;> intro hc)
    | ((with_reducible first | apply PF.mk | apply DrawP.mk); (focus kernel_rfl))
    | ((with_reducible apply Same.mk); (focus rfl); (first | exact trivial | exact rfl))
    | (intro cap hcap)
    | ((fail_if_success (with_reducible apply st)); conv => whnf))
    · have hy0 : y = 0 := by omega
      subst hy0
      refine more_at 0 (l.take n) ⟨⟨by decide, by decide⟩, h0.1.take _, by omega⟩ ⟨rfl, ⟨by omega, rfl, hl.symm, by show Cont.ints _ _ = Cont.ints _ _; rw [List.drop_zero], rfl, Nat.one_pos⟩, trivial⟩ ?_
      repeat' (first
    | (with_reducible first | exact True.intro | apply And.intro | apply If_true | apply If_false | apply If_not)
    | ((with_reducible apply VC.mk); exact vt)
    | ((with_reducible apply If_dec) <;> intro hc <;> (try (exfalso; omega)))
    | ((with_reducible apply If_any) <;> intro hc)
    | ((with_reducible first | apply PF.mk | apply DrawP.mk); (focus kernel_rfl))
    | ((with_reducible apply Same.mk); (focus rfl); (first | exact trivial | exact rfl))
    | (intro cap hcap)
    | ((fail_if_success (with_reducible apply st)); conv => whnf))
      refine Round.mk ⟨1, Nat.le_refl _, by decide, Fit.ren [0, 1] [] rfl rfl trivial ?_ ?_⟩
      · repeat' (first
    | (with_reducible first | exact True.intro | apply And.intro | apply If_true | apply If_false | apply If_not)
    | ((with_reducible apply VC.mk); exact vt)
    | ((with_reducible apply If_dec) <;> intro hc <;> (try (exfalso; omega)))
    | ((with_reducible apply If_any) <;> intro hc)
    | ((with_reducible first | apply PF.mk | apply DrawP.mk); (focus kernel_rfl))
    | ((with_reducible apply Same.mk); (focus rfl); (first | exact trivial | exact rfl))
    | (intro cap hcap)
    | ((fail_if_success (with_reducible apply st)); conv => whnf))
      · repeat' (first
    | (with_reducible first | exact True.intro | apply And.intro | apply If_true | apply If_false | apply If_not)
    | ((with_reducible apply VC.mk); exact vt)
    | ((with_reducible apply If_dec) <;> intro hc <;> (try (exfalso; omega)))
    | ((with_reducible apply If_any) <;> intro hc)
    | ((with_reducible first | apply PF.mk | apply DrawP.mk); (focus kernel_rfl))
    | ((with_reducible apply Same.mk); (focus rfl); (first | exact trivial | exact rfl))
    | (intro cap hcap)
    | ((fail_if_success (with_reducible apply st)); conv => whnf))
    · have hy0 : y = 1 := by omega
      subst hy0
      exact Fin.same hk
theorem sum2_K : ConOk Go.Proofs.Try.prog 45 (Con.fn (List Int × Nat × Nat) (fun _ => [.s 0 0 1 1 1]) (fun (l, n, c) => [.blk 29 (.recs 1 1 (fun _ => [.s 1 0 1 n c])) 1, .blk 5 (.ints .u8 l) c]) (fun (l, n, _) => B8 l ∧ n ≤ l.length ∧ n ≤ 1099511627776) (fun (l, n, _) => .v (.int .u32 (moreL 0 (l.take n)))) (fun (l, n, c) => [.blk 29 (.recs 1 1 (fun _ => [.s 1 0 1 n c])) 1, .blk 5 (.ints .u8 l) c])) :=
  conOk_fn (T := tab) mix Go.Proofs.Try.func45 (by decide +kernel) (by kernel_rfl) [] [] (fun n => by rw [Go.Proofs.Try.ntmps45]; exact Nat.le_of_ble_eq_true rfl) (fun (l, n, c) _ => ⟨trivial, (fun x hx => by simp at hx; rcases hx with rfl | rfl; exact .blk (fun _ _ => ⟨trivial, trivial⟩); exact .blk trivial), Nat.le_refl _⟩) (fun (l, n, c) _ x hx => by simp at hx; rcases hx with rfl | rfl <;> trivial) (fun (l, n, c) k h0 hk => sum2_c l n c k h0 hk)
theorem sum2_at {avs : List AV} {H : List Chunk} {k : K} (l : List Int) (n c : Nat) (σ : List Nat) (h0 : B8 l ∧ n ≤ l.length ∧ n ≤ 1099511627776) (hn : nodupN σ = true) (hc : chunksAt H (fren σ H.length) σ [.blk 29 (.recs 1 1 (fun _ => [.s 1 0 1 n c])) 1, .blk 5 (.ints .u8 l) c]) (ha : argsM H σ [.s 0 0 1 1 1] avs)
    (h : numK H.length (fun N => k (.v (.int .u32 (moreL 0 (l.take n)))) (putAll H σ (List.map (Chunk.ren (fren σ N)) [.blk 29 (.recs 1 1 (fun _ => [.s 1 0 1 n c])) 1, .blk 5 (.ints .u8 l) c])))) : CallP Go.Proofs.Try.prog 45 avs H k :=
  CallP.mk ⟨_, sum2_K.real, Con.spec sum2_K, (l, n, c), σ, ⟨h0, hn, hc, ha⟩, h⟩
/-- Parts, joined. -/
def partsC (g : Bool) (ps : List (List Int)) : Cont := .recs 1 ps.length (fun i => [.im g 1 (ps.getD i []).length (.ints .u8 (ps.getD i []))])
set_option maxHeartbeats 4000000 in
theorem join_c (ps : List (List Int)) (k : K) (h0 : ps.flatten.length ≤ 1099511627776 ∧ ps.length ≤ 1099511627776) (hk : ∀ l, l = ps.flatten → k (.im true 1 l.length (.ints .u8 l)) []) : evFunc tab [] [] Go.Proofs.Try.f47 [.im false 1 ps.length (partsC false ps)] [] k := by
  repeat' (first
    | (with_reducible first | exact True.intro | apply And.intro | apply If_true | apply If_false | apply If_not)
    | ((with_reducible apply VC.mk); exact vt)
    | ((with_reducible apply If_dec) <;> intro hc <;> (try (exfalso; omega)))
    | ((with_reducible apply If_any) <;> intro hc)
    | ((with_reducible first | apply PF.mk | apply DrawP.mk); (focus kernel_rfl))
    | ((with_reducible apply Same.mk); (focus rfl); (first | exact trivial | exact rfl))
    | (intro cap hcap)
    | ((fail_if_success (with_reducible apply st)); conv => whnf))
  refine LoopP.mk ⟨Nat × List Int × Nat, fun y => y.1 ≤ ps.length ∧ y.2.1 = (ps.take y.1).flatten, fun y => ([(3, .s 0 0 1 y.2.1.length y.2.2), (6, .im false 1 ps.length (partsC false ps)), (7, .v (.int .i64 ps.length)), (8, .v (.int .i64 y.1))], [.blk 5 (.ints .u8 y.2.1) y.2.2]), fun y => ps.length - y.1, (0, [], 0), ⟨Nat.zero_le _, rfl⟩, Fit.ren [0] [] rfl rfl trivial ?_ ?_, ?_⟩
  · repeat' (first
    | (with_reducible first | exact True.intro | apply And.intro | apply If_true | apply If_false | apply If_not)
    | ((with_reducible apply VC.mk); exact vt)
    | ((with_reducible apply If_dec) <;> intro hc <;> (try (exfalso; omega)))
    | ((with_reducible apply If_any) <;> intro hc)
    | ((with_reducible first | apply PF.mk | apply DrawP.mk); (focus kernel_rfl))
    | ((with_reducible apply Same.mk); (focus rfl); (first | exact trivial | exact rfl))
    | (intro cap hcap)
    | ((fail_if_success (with_reducible apply st)); conv => whnf))
  · repeat' (first
    | (with_reducible first | exact True.intro | apply And.intro | apply If_true | apply If_false | apply If_not)
    | ((with_reducible apply VC.mk); exact vt)
    | ((with_reducible apply If_dec) <;> intro hc <;> (try (exfalso; omega)))
    | ((with_reducible apply If_any) <;> intro hc)
    | ((with_reducible first | apply PF.mk | apply DrawP.mk); (focus kernel_rfl))
    | ((with_reducible apply Same.mk); (focus rfl); (first | exact trivial | exact rfl))
    | (intro cap hcap)
    | ((fail_if_success (with_reducible apply st)); conv => whnf))
  · intro y hy
    obtain ⟨g1, g2⟩ := hy
    have e : ((y.1 : Nat) : Int).toNat = y.1 := Int.toNat_natCast _
    by_cases hlt : y.1 < ps.length
    · have e2 : (ps.take (y.1 + 1)).flatten = (ps.take y.1).flatten ++ ps.getD y.1 [] := by
        rw [List.take_add_one, List.getElem?_eq_getElem hlt, List.flatten_append, List.getD_eq_getElem?_getD, List.getElem?_eq_getElem hlt]
        simp
      have e3 : ((ps.take (y.1 + 1)).flatten).length ≤ ps.flatten.length := by
        have h1 := congrArg List.length (congrArg List.flatten (List.take_append_drop (y.1 + 1) ps))
        rw [List.flatten_append, List.length_append] at h1
        omega
      have e4 := congrArg List.length e2
      rw [List.length_append, ← g2] at e4
      rw [← g2] at e2
      repeat' (first
    | (with_reducible first | exact True.intro | apply And.intro | apply If_true | apply If_false | apply If_not)
    | ((with_reducible apply VC.mk); exact vt)
    | ((with_reducible apply If_dec) <;> intro hc <;> (try (exfalso; omega)))
    | ((with_reducible apply If_any) <;> intro hc)
    | ((with_reducible first | apply PF.mk | apply DrawP.mk); (focus kernel_rfl))
    | ((with_reducible apply Same.mk); (focus rfl); (first | exact trivial | exact rfl))
    | (intro cap hcap)
    | ((fail_if_success (with_reducible apply st)); conv => whnf))
      · refine VC.mk ⟨⟨rfl, rfl, by simp [Cont.cells], by omega⟩, trivial, ?_, by decide, by decide⟩
        rw [e]; omega
      · refine Round.mk ⟨(y.1 + 1, y.2.1 ++ ps.getD y.1 [], cap), ⟨by show y.1 + 1 ≤ _; omega, e2.symm⟩, by show ps.length - (y.1 + 1) < ps.length - y.1; omega, Fit.ren [1] [] rfl rfl trivial ?_ ?_⟩
        · refine ⟨⟨VC.mk ⟨rfl, by show cap * 1 = cap; omega⟩, VC.mk ⟨rfl, ?_⟩⟩, trivial⟩
          rw [e]; exact List.prefix_rfl
        · repeat' (first
    | (with_reducible first | exact True.intro | apply And.intro | apply If_true | apply If_false | apply If_not)
    | ((with_reducible apply VC.mk); exact vt)
    | ((with_reducible apply If_dec) <;> intro hc <;> (try (exfalso; omega)))
    | ((with_reducible apply If_any) <;> intro hc)
    | ((with_reducible first | apply PF.mk | apply DrawP.mk); (focus kernel_rfl))
    | ((with_reducible apply Same.mk); (focus rfl); (first | exact trivial | exact rfl))
    | (intro cap hcap)
    | ((fail_if_success (with_reducible apply st)); conv => whnf))
          all_goals (refine VC.mk ⟨rfl, rfl, rfl, ?_, rfl⟩; rw [e]; simp)
    · repeat' (first
    | (with_reducible first | exact True.intro | apply And.intro | apply If_true | apply If_false | apply If_not)
    | ((with_reducible apply VC.mk); exact vt)
    | ((with_reducible apply If_dec) <;> intro hc <;> (try (exfalso; omega)))
    | ((with_reducible apply If_any) <;> intro hc)
    | ((with_reducible first | apply PF.mk | apply DrawP.mk); (focus kernel_rfl))
    | ((with_reducible apply Same.mk); (focus rfl); (first | exact trivial | exact rfl))
    | (intro cap hcap)
    | ((fail_if_success (with_reducible apply st)); conv => whnf))
      have e5 : ps.take y.1 = ps := List.take_of_length_le (by omega)
      rw [e5] at g2
      exact Fin.frz rfl rfl (hk _ g2)
theorem join_K : ConOk Go.Proofs.Try.prog 47 (Con.of (List (List Int)) (List Int) (fun ps => [.im false 1 ps.length (partsC false ps)]) (fun _ => []) (fun ps => ps.flatten.length ≤ 1099511627776 ∧ ps.length ≤ 1099511627776) (fun ps l => l = ps.flatten) (fun _ l => .im true 1 l.length (.ints .u8 l)) (fun _ _ => [])) :=
  conOk_rel (T := tab) mix Go.Proofs.Try.func47 (by decide +kernel) (by kernel_rfl) [] [] (fun n => by rw [Go.Proofs.Try.ntmps47]; exact Nat.le_of_ble_eq_true rfl) (fun n z _ _ => ⟨⟨rfl, trivial⟩, (fun c hc => by cases hc), Nat.le_refl _⟩) (fun n _ c hc => by cases hc) (fun ps k h0 hk => join_c ps k h0 (fun l hl => hk l hl))
theorem join_at {avs : List AV} {H : List Chunk} {k : K} (ps : List (List Int)) (h0 : ps.flatten.length ≤ 1099511627776 ∧ ps.length ≤ 1099511627776) (ha : argsM H [] [.im false 1 ps.length (partsC false ps)] avs) (h : ∀ l, l = ps.flatten → k (.im true 1 l.length (.ints .u8 l)) H) : CallP Go.Proofs.Try.prog 47 avs H k :=
  CallP.mk ⟨_, join_K.real, Con.spec join_K, ps, [], ⟨h0, rfl, trivial, ha⟩, fun l hl => (numK_eq H.length (fun N => k (AV.ren (fren [] N) (.im true 1 l.length (.ints .u8 l))) (putAll H [] []))).mpr (by simpa [putAll, AV.ren, Cont.ren] using h l hl)⟩
end Go.Proofs.Ytcfmlnddmpiemaa.Sx


set_option maxRecDepth 10000
namespace Go.Proofs.Ytcfmlnddmpiemaa.Sx
open Go.RowKit Go.Proofs.Ytcfmlnddmpiemaa.Sx.Tb
/-! ### Records -/
abbrev RecR := Int × List Int
def recAV (g : Bool) (r : RecR) : List AV := [.v (.int .i64 r.1), .im g 1 r.2.length (.ints .u8 r.2)]
def recsC (g : Bool) (rs : List RecR) : Cont := .recs 2 rs.length (fun i => recAV g (rs.getD i (0, [])))
def enc1 (r : RecR) : List Int := leB 8 r.1 ++ leB 4 (r.2.length : Int) ++ r.2
def encL (rs : List RecR) : List Int := rs.flatMap enc1
def recOk (r : RecR) : Prop := 0 ≤ r.1 ∧ r.1 ≤ 1099511627776 ∧ r.2.length ≤ 1073741824
theorem enc1_length (r : RecR) : (enc1 r).length = 12 + r.2.length := by simp [enc1, leB_length]; omega
theorem encL_snoc (rs : List RecR) (i : Nat) (h : i < rs.length) : encL (rs.take (i + 1)) = encL (rs.take i) ++ enc1 (rs.getD i (0, [])) := by
  unfold encL
  rw [List.take_add_one, List.getElem?_eq_getElem h, List.flatMap_append, List.getD_eq_getElem?_getD, List.getElem?_eq_getElem h]
  simp
theorem encL_le (rs : List RecR) (i : Nat) : (encL (rs.take i)).length ≤ (encL rs).length := by
  have h1 := congrArg List.length (congrArg encL (List.take_append_drop i rs))
  have h2 : encL (rs.take i ++ rs.drop i) = encL (rs.take i) ++ encL (rs.drop i) := by unfold encL; rw [List.flatMap_append]
  rw [h2, List.length_append] at h1
  omega
theorem head_eq (a b : Int) : putB (putB (List.replicate (Int.toNat 12) 0) (Int.toNat 0) 8 a) (Int.toNat 8) 4 b = leB 8 a ++ leB 4 b := by
  have h1 : putB (List.replicate (Int.toNat 12) 0) (Int.toNat 0) 8 a = leB 8 a ++ List.replicate 4 0 := by
    rw [putB_eq _ _ _ _ (by decide)]; rfl
  rw [h1, putB_eq _ _ _ _ (by simp [leB_length])]
  have h2 : (leB 8 a ++ List.replicate 4 0).take (Int.toNat 8) = leB 8 a := by
    rw [List.take_append_of_le_length (by rw [leB_length]; decide)]
    exact List.take_of_length_le (by rw [leB_length]; decide)
  have h3 : (leB 8 a ++ List.replicate 4 0).drop (Int.toNat 8 + 4) = [] := List.drop_eq_nil_of_le (by simp [leB_length])
  rw [h2, h3, List.append_nil]
def joinRow (a b c : List Int) : Cont := .recs 1 3 (fun i => match i with | 0 => [.im true 1 a.length (.ints .u8 a)] | 1 => [.im true 1 b.length (.ints .u8 b)] | _ => [.im false 1 c.length (.ints .u8 c)])
set_option maxHeartbeats 8000000 in
theorem enc_c (rs : List RecR) (k : K) (h0 : rs.length ≤ 1099511627776 ∧ (encL rs).length ≤ 1099511627776 ∧ ∀ r ∈ rs, recOk r) (hk : ∀ l, l = encL rs → k (.im true 1 l.length (.ints .u8 l)) []) : evFunc tab [] [] Go.Proofs.Try.f67 [.im false 2 rs.length (recsC false rs)] [] k := by
  repeat' (first
    | (with_reducible first | exact True.intro | apply And.intro | apply If_true | apply If_false | apply If_not)
    | ((with_reducible apply VC.mk); exact vt)
    | ((with_reducible apply If_dec) <;> intro hc <;> (try (exfalso; omega)))
    | ((with_reducible apply If_any) <;> intro hc)
    | ((with_reducible first | apply PF.mk | apply DrawP.mk); (focus kernel_rfl))
    | ((with_reducible apply Same.mk); (focus rfl); (first | exact trivial | exact rfl))
    | (intro cap hcap)
    | ((fail_if_success (with_reducible apply st)); conv => whnf))
  refine LoopP.mk ⟨Nat × List Int, fun y => y.1 ≤ rs.length ∧ y.2 = encL (rs.take y.1), fun y => ([(3, .im true 1 y.2.length (.ints .u8 y.2)), (7, .im false 2 rs.length (recsC false rs)), (8, .v (.int .i64 rs.length)), (9, .v (.int .i64 y.1))], []), fun y => rs.length - y.1, (0, []), ⟨Nat.zero_le _, rfl⟩, Fit.ren [] [] rfl rfl trivial trivial ?_, ?_⟩
  · repeat' (first
    | (with_reducible first | exact True.intro | apply And.intro | apply If_true | apply If_false | apply If_not)
    | ((with_reducible apply VC.mk); exact vt)
    | ((with_reducible apply If_dec) <;> intro hc <;> (try (exfalso; omega)))
    | ((with_reducible apply If_any) <;> intro hc)
    | ((with_reducible first | apply PF.mk | apply DrawP.mk); (focus kernel_rfl))
    | ((with_reducible apply Same.mk); (focus rfl); (first | exact trivial | exact rfl))
    | (intro cap hcap)
    | ((fail_if_success (with_reducible apply st)); conv => whnf))
  · intro y hy
    obtain ⟨g1, g2⟩ := hy
    have e : ((y.1 : Nat) : Int).toNat = y.1 := Int.toNat_natCast _
    by_cases hlt : y.1 < rs.length
    · have hm : rs.getD y.1 (0, []) ∈ rs := by
        rw [show rs.getD y.1 (0, []) = rs[y.1] by simp [List.getD_eq_getElem?_getD, hlt]]; exact List.getElem_mem hlt
      have hok := h0.2.2 _ hm
      have hsn := encL_snoc rs y.1 hlt
      have hle := encL_le rs (y.1 + 1)
      have ho1 := hok.1
      have ho2 := hok.2.1
      have ho3 := hok.2.2
      repeat' (first
    | (with_reducible first | exact True.intro | apply And.intro | apply If_true | apply If_false | apply If_not)
    | ((with_reducible apply VC.mk); exact vt)
    | ((with_reducible apply If_dec) <;> intro hc <;> (try (exfalso; omega)))
    | ((with_reducible apply If_any) <;> intro hc)
    | ((with_reducible first | apply PF.mk | apply DrawP.mk); (focus kernel_rfl))
    | ((with_reducible apply Same.mk); (focus rfl); (first | exact trivial | exact rfl))
    | (intro cap hcap)
    | ((fail_if_success (with_reducible apply st)); conv => whnf))
      all_goals simp only [e] at *
      all_goals generalize rs.getD y.1 (0, []) = r at *
      · exact VC.mk (by simp only [inR]; omega)
      refine Put64_at (List.replicate (Int.toNat 12) 0) (Int.toNat 12) 0 r.1 1 ⟨by decide, by decide, by decide⟩ rfl ⟨rfl, rfl, rfl, trivial⟩ ?_
      repeat' (first
    | (with_reducible first | exact True.intro | apply And.intro | apply If_true | apply If_false | apply If_not)
    | ((with_reducible apply VC.mk); exact vt)
    | ((with_reducible apply If_dec) <;> intro hc <;> (try (exfalso; omega)))
    | ((with_reducible apply If_any) <;> intro hc)
    | ((with_reducible first | apply PF.mk | apply DrawP.mk); (focus kernel_rfl))
    | ((with_reducible apply Same.mk); (focus rfl); (first | exact trivial | exact rfl))
    | (intro cap hcap)
    | ((fail_if_success (with_reducible apply st)); conv => whnf))
      refine Put32_at (putB (List.replicate (Int.toNat 12) 0) (Int.toNat 0) 8 r.1) (Int.toNat 12) 8 (r.2.length : Int) 1 ⟨by decide, by rw [putB_length]; decide, by rw [putB_length]; decide⟩ rfl ⟨by show _ = AV.s _ _ _ _ _; rw [putB_length]; rfl, rfl, rfl, trivial⟩ ?_
      rw [head_eq]
      obtain ⟨hd, hhd⟩ : ∃ hd, hd = leB 8 r.1 ++ leB 4 (r.2.length : Int) := ⟨_, rfl⟩
      have hhl : hd.length = 12 := by rw [hhd]; simp [leB_length]
      rw [← hhd]
      repeat' (first
    | (with_reducible first | exact True.intro | apply And.intro | apply If_true | apply If_false | apply If_not)
    | ((with_reducible apply VC.mk); exact vt)
    | ((with_reducible apply If_dec) <;> intro hc <;> (try (exfalso; omega)))
    | ((with_reducible apply If_any) <;> intro hc)
    | ((with_reducible first | apply PF.mk | apply DrawP.mk); (focus kernel_rfl))
    | ((with_reducible apply Same.mk); (focus rfl); (first | exact trivial | exact rfl))
    | (intro cap hcap)
    | ((fail_if_success (with_reducible apply st)); conv => whnf))
      refine CallP.fit [0, 1, 2] [1] (H' := [.dead, .dead, .blk 29 (joinRow y.2 hd r.2) 3]) (avs' := [.s 2 0 1 3 3]) rfl rfl ⟨trivial, trivial⟩ ⟨trivial, trivial, ⟨VC.mk ⟨rfl, rfl⟩, VC.mk ⟨rfl, Nat.le_refl _⟩, fun j hj => ?_⟩, trivial⟩ ⟨VC.mk ⟨rfl, rfl, rfl, rfl, rfl⟩, trivial⟩ ?_
      · match j, hj with
        | 0, _ => exact ⟨⟨VC.mk ⟨rfl, rfl, rfl⟩, VC.mk ⟨rfl, rfl⟩⟩, trivial⟩
        | 1, _ => exact ⟨⟨VC.mk ⟨by show 0 + Int.toNat 12 ≤ hd.length; rw [hhl]; decide, rfl, rfl, by rw [hhl]; rfl, Nat.one_pos⟩, VC.mk ⟨rfl, by rw [List.drop_zero]; exact List.take_of_length_le (by rw [hhl]; decide)⟩⟩, trivial⟩
        | 2, _ => exact ⟨⟨VC.mk ⟨rfl, rfl, rfl⟩, VC.mk ⟨rfl, rfl⟩⟩, trivial⟩
      have hfl : [y.2, hd, r.2].flatten = encL (rs.take (y.1 + 1)) := by
        rw [hsn, ← g2, enc1, ← hhd]; simp
      refine join_at [y.2, hd, r.2] ⟨by rw [hfl]; omega, by simp⟩ ⟨⟨by decide, rfl, rfl, ⟨rfl, rfl, fun j hj => ?_⟩, rfl, Nat.one_pos⟩, trivial⟩ ?_
      · match j, hj with
        | 0, _ => rfl
        | 1, _ => rfl
        | 2, _ => rfl
      intro l hl
      rw [hfl] at hl
      repeat' (first
    | (with_reducible first | exact True.intro | apply And.intro | apply If_true | apply If_false | apply If_not)
    | ((with_reducible apply VC.mk); exact vt)
    | ((with_reducible apply If_dec) <;> intro hc <;> (try (exfalso; omega)))
    | ((with_reducible apply If_any) <;> intro hc)
    | ((with_reducible first | apply PF.mk | apply DrawP.mk); (focus kernel_rfl))
    | ((with_reducible apply Same.mk); (focus rfl); (first | exact trivial | exact rfl))
    | (intro cap hcap)
    | ((fail_if_success (with_reducible apply st)); conv => whnf))
      refine Round.mk ⟨(y.1 + 1, l), ⟨by show y.1 + 1 ≤ _; omega, hl⟩, by show rs.length - (y.1 + 1) < rs.length - y.1; omega, Fit.ren [] [] rfl rfl trivial trivial ?_⟩
      repeat' (first
    | (with_reducible first | exact True.intro | apply And.intro | apply If_true | apply If_false | apply If_not)
    | ((with_reducible apply VC.mk); exact vt)
    | ((with_reducible apply If_dec) <;> intro hc <;> (try (exfalso; omega)))
    | ((with_reducible apply If_any) <;> intro hc)
    | ((with_reducible first | apply PF.mk | apply DrawP.mk); (focus kernel_rfl))
    | ((with_reducible apply Same.mk); (focus rfl); (first | exact trivial | exact rfl))
    | (intro cap hcap)
    | ((fail_if_success (with_reducible apply st)); conv => whnf))
    · repeat' (first
    | (with_reducible first | exact True.intro | apply And.intro | apply If_true | apply If_false | apply If_not)
    | ((with_reducible apply VC.mk); exact vt)
    | ((with_reducible apply If_dec) <;> intro hc <;> (try (exfalso; omega)))
    | ((with_reducible apply If_any) <;> intro hc)
    | ((with_reducible first | apply PF.mk | apply DrawP.mk); (focus kernel_rfl))
    | ((with_reducible apply Same.mk); (focus rfl); (first | exact trivial | exact rfl))
    | (intro cap hcap)
    | ((fail_if_success (with_reducible apply st)); conv => whnf))
      have e5 : rs.take y.1 = rs := List.take_of_length_le (by omega)
      rw [e5] at g2
      exact Fin.same (hk _ g2)
theorem enc_K : ConOk Go.Proofs.Try.prog 67 (Con.of (List RecR) (List Int) (fun rs => [.im false 2 rs.length (recsC false rs)]) (fun _ => []) (fun rs => rs.length ≤ 1099511627776 ∧ (encL rs).length ≤ 1099511627776 ∧ ∀ r ∈ rs, recOk r) (fun rs l => l = encL rs) (fun _ l => .im true 1 l.length (.ints .u8 l)) (fun _ _ => [])) :=
  conOk_rel (T := tab) mix Go.Proofs.Try.func67 (by decide +kernel) (by kernel_rfl) [] [] (fun n => by rw [Go.Proofs.Try.ntmps67]; exact Nat.le_of_ble_eq_true rfl) (fun n z _ _ => ⟨⟨rfl, trivial⟩, (fun c hc => by cases hc), Nat.le_refl _⟩) (fun n _ c hc => by cases hc) (fun rs k h0 hk => enc_c rs k h0 (fun l hl => hk l hl))
theorem enc_at {avs : List AV} {H : List Chunk} {k : K} (rs : List RecR) (h0 : rs.length ≤ 1099511627776 ∧ (encL rs).length ≤ 1099511627776 ∧ ∀ r ∈ rs, recOk r) (ha : argsM H [] [.im false 2 rs.length (recsC false rs)] avs) (h : ∀ l, l = encL rs → k (.im true 1 l.length (.ints .u8 l)) H) : CallP Go.Proofs.Try.prog 67 avs H k :=
  CallP.mk ⟨_, enc_K.real, Con.spec enc_K, rs, [], ⟨h0, rfl, trivial, ha⟩, fun l hl => (numK_eq H.length (fun N => k (AV.ren (fren [] N) (.im true 1 l.length (.ints .u8 l))) (putAll H [] []))).mpr (by simpa [putAll, AV.ren, Cont.ren] using h l hl)⟩
end Go.Proofs.Ytcfmlnddmpiemaa.Sx


set_option maxRecDepth 10000
namespace Go.Proofs.Ytcfmlnddmpiemaa.Sx
open Go.RowKit Go.Proofs.Ytcfmlnddmpiemaa.Sx.Tb
/-- The sign's bytes, as they are put. -/
def signL (seq : Int) (n : Nat) (body : List Int) : List Int :=
  let b1 := putB (List.replicate 512 0) 0 4 826954822
  let b2 := putB b1 4 8 seq
  let b3 := putB b2 12 4 (n : Int)
  let b4 := putB b3 16 4 (body.length : Int)
  let b5 := putB b4 20 4 (moreL 0 body)
  putB b5 24 4 (moreL 0 (b5.take 24))
theorem putB_B8 {l : List Int} (h : B8 l) (at_ n : Nat) (v : Int) (hl : at_ + n ≤ l.length) : B8 (putB l at_ n v) := by
  rw [putB_eq _ _ _ _ hl]
  exact ((h.take _).append (leB_B8 _ _)).append (h.drop _)
set_option maxHeartbeats 8000000 in
theorem sign_c (seq : Int) (n : Nat) (body : List Int) (k : K) (h0 : 0 ≤ seq ∧ seq < 18446744073709551616 ∧ n ≤ 1073741824 ∧ body.length ≤ 1073741824 ∧ B8 body) (hk : ∀ l, l = signL seq n body → l.length = 512 → k (.im true 1 l.length (.ints .u8 l)) []) : evFunc tab [] [] Go.Proofs.Try.f96 [.v (.int .u64 seq), .v (.int .i64 n), .im false 1 body.length (.ints .u8 body)] [] k := by
  repeat' (first
    | (with_reducible first | exact True.intro | apply And.intro | apply If_true | apply If_false | apply If_not)
    | ((with_reducible apply VC.mk); exact vt)
    | ((with_reducible apply If_dec) <;> intro hc <;> (try (exfalso; omega)))
    | ((with_reducible apply If_any) <;> intro hc)
    | ((with_reducible first | apply PF.mk | apply DrawP.mk); (focus kernel_rfl))
    | ((with_reducible apply Same.mk); (focus rfl); (first | exact trivial | exact rfl))
    | (intro cap hcap)
    | ((fail_if_success (with_reducible apply st)); conv => whnf))
  obtain ⟨z, hz⟩ : ∃ z : List Int, z = List.replicate (Int.toNat 512) 0 := ⟨_, rfl⟩
  rw [← hz]
  have hz2 : z = List.replicate 512 0 := hz
  have hzl : z.length = 512 := by rw [hz2]; simp
  have hz8 : B8 z := by rw [hz2]; exact B8.replicate 512
  obtain ⟨C, hC⟩ : ∃ C : Nat, C = Int.toNat 512 := ⟨_, rfl⟩
  rw [← hC]
  have hC2 : C = 512 := hC
  have hC3 : C * 1 = C := by omega
  simp only [hC3]
  refine Put32_at z C 0 826954822 0 ⟨by omega, by omega, by omega⟩ rfl ⟨by rw [hzl, ← hC2]; rfl, rfl, rfl, trivial⟩ ?_
  obtain ⟨b1, hb1⟩ : ∃ b1 : List Int, b1 = putB z (Int.toNat 0) 4 826954822 := ⟨_, rfl⟩
  rw [← hb1]
  have l1 : b1.length = 512 := by rw [hb1, putB_length]; exact hzl
  have w1 : B8 b1 := by rw [hb1]; exact putB_B8 hz8 _ _ _ (by rw [hzl]; decide)
  repeat' (first
    | (with_reducible first | exact True.intro | apply And.intro | apply If_true | apply If_false | apply If_not)
    | ((with_reducible apply VC.mk); exact vt)
    | ((with_reducible apply If_dec) <;> intro hc <;> (try (exfalso; omega)))
    | ((with_reducible apply If_any) <;> intro hc)
    | ((with_reducible first | apply PF.mk | apply DrawP.mk); (focus kernel_rfl))
    | ((with_reducible apply Same.mk); (focus rfl); (first | exact trivial | exact rfl))
    | (intro cap hcap)
    | ((fail_if_success (with_reducible apply st)); conv => whnf))
  refine Put64_at b1 C 4 seq 0 ⟨by omega, by omega, by omega⟩ rfl ⟨by rw [l1, ← hC2]; rfl, rfl, rfl, trivial⟩ ?_
  obtain ⟨b2, hb2⟩ : ∃ b2 : List Int, b2 = putB b1 (Int.toNat 4) 8 seq := ⟨_, rfl⟩
  rw [← hb2]
  have l2 : b2.length = 512 := by rw [hb2, putB_length]; exact l1
  have w2 : B8 b2 := by rw [hb2]; exact putB_B8 w1 _ _ _ (by rw [l1]; decide)
  repeat' (first
    | (with_reducible first | exact True.intro | apply And.intro | apply If_true | apply If_false | apply If_not)
    | ((with_reducible apply VC.mk); exact vt)
    | ((with_reducible apply If_dec) <;> intro hc <;> (try (exfalso; omega)))
    | ((with_reducible apply If_any) <;> intro hc)
    | ((with_reducible first | apply PF.mk | apply DrawP.mk); (focus kernel_rfl))
    | ((with_reducible apply Same.mk); (focus rfl); (first | exact trivial | exact rfl))
    | (intro cap hcap)
    | ((fail_if_success (with_reducible apply st)); conv => whnf))
  refine Put32_at b2 C 12 (n : Int) 0 ⟨by omega, by omega, by omega⟩ rfl ⟨by rw [l2, ← hC2]; rfl, rfl, rfl, trivial⟩ ?_
  obtain ⟨b3, hb3⟩ : ∃ b3 : List Int, b3 = putB b2 (Int.toNat 12) 4 (n : Int) := ⟨_, rfl⟩
  rw [← hb3]
  have l3 : b3.length = 512 := by rw [hb3, putB_length]; exact l2
  have w3 : B8 b3 := by rw [hb3]; exact putB_B8 w2 _ _ _ (by rw [l2]; decide)
  repeat' (first
    | (with_reducible first | exact True.intro | apply And.intro | apply If_true | apply If_false | apply If_not)
    | ((with_reducible apply VC.mk); exact vt)
    | ((with_reducible apply If_dec) <;> intro hc <;> (try (exfalso; omega)))
    | ((with_reducible apply If_any) <;> intro hc)
    | ((with_reducible first | apply PF.mk | apply DrawP.mk); (focus kernel_rfl))
    | ((with_reducible apply Same.mk); (focus rfl); (first | exact trivial | exact rfl))
    | (intro cap hcap)
    | ((fail_if_success (with_reducible apply st)); conv => whnf))
  refine Put32_at b3 C 16 (body.length : Int) 0 ⟨by omega, by omega, by omega⟩ rfl ⟨by rw [l3, ← hC2]; rfl, rfl, rfl, trivial⟩ ?_
  obtain ⟨b4, hb4⟩ : ∃ b4 : List Int, b4 = putB b3 (Int.toNat 16) 4 (body.length : Int) := ⟨_, rfl⟩
  rw [← hb4]
  have l4 : b4.length = 512 := by rw [hb4, putB_length]; exact l3
  have w4 : B8 b4 := by rw [hb4]; exact putB_B8 w3 _ _ _ (by rw [l3]; decide)
  repeat' (first
    | (with_reducible first | exact True.intro | apply And.intro | apply If_true | apply If_false | apply If_not)
    | ((with_reducible apply VC.mk); exact vt)
    | ((with_reducible apply If_dec) <;> intro hc <;> (try (exfalso; omega)))
    | ((with_reducible apply If_any) <;> intro hc)
    | ((with_reducible first | apply PF.mk | apply DrawP.mk); (focus kernel_rfl))
    | ((with_reducible apply Same.mk); (focus rfl); (first | exact trivial | exact rfl))
    | (intro cap hcap)
    | ((fail_if_success (with_reducible apply st)); conv => whnf))
  refine sum_at body ⟨h0.2.2.2.2, by omega⟩ ⟨⟨by decide, rfl, rfl, ⟨rfl, rfl, fun j hj => by match j, hj with | 0, _ => rfl⟩, rfl, Nat.one_pos⟩, trivial⟩ ?_
  repeat' (first
    | (with_reducible first | exact True.intro | apply And.intro | apply If_true | apply If_false | apply If_not)
    | ((with_reducible apply VC.mk); exact vt)
    | ((with_reducible apply If_dec) <;> intro hc <;> (try (exfalso; omega)))
    | ((with_reducible apply If_any) <;> intro hc)
    | ((with_reducible first | apply PF.mk | apply DrawP.mk); (focus kernel_rfl))
    | ((with_reducible apply Same.mk); (focus rfl); (first | exact trivial | exact rfl))
    | (intro cap hcap)
    | ((fail_if_success (with_reducible apply st)); conv => whnf))
  refine Put32_at b4 C 20 (moreL 0 body) 0 ⟨by omega, by omega, by omega⟩ rfl ⟨by rw [l4, ← hC2]; rfl, rfl, rfl, trivial⟩ ?_
  obtain ⟨b5, hb5⟩ : ∃ b5 : List Int, b5 = putB b4 (Int.toNat 20) 4 (moreL 0 body) := ⟨_, rfl⟩
  rw [← hb5]
  have l5 : b5.length = 512 := by rw [hb5, putB_length]; exact l4
  have w5 : B8 b5 := by rw [hb5]; exact putB_B8 w4 _ _ _ (by rw [l4]; decide)
  repeat' (first
    | (with_reducible first | exact True.intro | apply And.intro | apply If_true | apply If_false | apply If_not)
    | ((with_reducible apply VC.mk); exact vt)
    | ((with_reducible apply If_dec) <;> intro hc <;> (try (exfalso; omega)))
    | ((with_reducible apply If_any) <;> intro hc)
    | ((with_reducible first | apply PF.mk | apply DrawP.mk); (focus kernel_rfl))
    | ((with_reducible apply Same.mk); (focus rfl); (first | exact trivial | exact rfl))
    | (intro cap hcap)
    | ((fail_if_success (with_reducible apply st)); conv => whnf))
  refine sum2_at b5 24 C [2, 0] ⟨w5, by omega, by decide⟩ rfl ⟨rfl, rfl, trivial⟩ ⟨rfl, trivial⟩ ?_
  repeat' (first
    | (with_reducible first | exact True.intro | apply And.intro | apply If_true | apply If_false | apply If_not)
    | ((with_reducible apply VC.mk); exact vt)
    | ((with_reducible apply If_dec) <;> intro hc <;> (try (exfalso; omega)))
    | ((with_reducible apply If_any) <;> intro hc)
    | ((with_reducible first | apply PF.mk | apply DrawP.mk); (focus kernel_rfl))
    | ((with_reducible apply Same.mk); (focus rfl); (first | exact trivial | exact rfl))
    | (intro cap hcap)
    | ((fail_if_success (with_reducible apply st)); conv => whnf))
  refine Put32_at b5 C 24 (moreL 0 (b5.take 24)) 0 ⟨by omega, by omega, by omega⟩ rfl ⟨by rw [l5, ← hC2]; rfl, rfl, rfl, trivial⟩ ?_
  obtain ⟨b6, hb6⟩ : ∃ b6 : List Int, b6 = putB b5 (Int.toNat 24) 4 (moreL 0 (b5.take 24)) := ⟨_, rfl⟩
  rw [← hb6]
  have l6 : b6.length = 512 := by rw [hb6, putB_length]; exact l5
  repeat' (first
    | (with_reducible first | exact True.intro | apply And.intro | apply If_true | apply If_false | apply If_not)
    | ((with_reducible apply VC.mk); exact vt)
    | ((with_reducible apply If_dec) <;> intro hc <;> (try (exfalso; omega)))
    | ((with_reducible apply If_any) <;> intro hc)
    | ((with_reducible first | apply PF.mk | apply DrawP.mk); (focus kernel_rfl))
    | ((with_reducible apply Same.mk); (focus rfl); (first | exact trivial | exact rfl))
    | (intro cap hcap)
    | ((fail_if_success (with_reducible apply st)); conv => whnf))
  refine Fin.frz rfl (by rw [l6, hC2]) (hk b6 ?_ l6)
  rw [hb6, hb5, hb4, hb3, hb2, hb1, hz2]
  rfl
def signRel (x : Int × Nat × List Int) (l : List Int) : Prop := l = signL x.1 x.2.1 x.2.2 ∧ l.length = 512
theorem sign_K : ConOk Go.Proofs.Try.prog 96 (Con.of (Int × Nat × List Int) (List Int) (fun x => [.v (.int .u64 x.1), .v (.int .i64 x.2.1), .im false 1 x.2.2.length (.ints .u8 x.2.2)]) (fun _ => []) (fun x => 0 ≤ x.1 ∧ x.1 < 18446744073709551616 ∧ x.2.1 ≤ 1073741824 ∧ x.2.2.length ≤ 1073741824 ∧ B8 x.2.2) signRel (fun _ l => .im true 1 l.length (.ints .u8 l)) (fun _ _ => [])) := by
  refine conOk_rel (T := tab) mix Go.Proofs.Try.func96 (by decide +kernel) (by kernel_rfl) [] [] (fun n => by rw [Go.Proofs.Try.ntmps96]; exact Nat.le_of_ble_eq_true rfl) (fun n z _ _ => ⟨⟨rfl, trivial⟩, (fun c hc => by cases hc), Nat.le_refl _⟩) (fun n _ c hc => by cases hc) ?_
  intro x k h0 hk
  refine sign_c x.1 x.2.1 x.2.2 k h0 (fun l hl hl2 => ?_)
  have h : signRel x l := ⟨hl, hl2⟩
  exact hk l h
theorem sign_at {avs : List AV} {H : List Chunk} {k : K} (seq : Int) (n : Nat) (body : List Int) (h0 : 0 ≤ seq ∧ seq < 18446744073709551616 ∧ n ≤ 1073741824 ∧ body.length ≤ 1073741824 ∧ B8 body) (ha : argsM H [] [.v (.int .u64 seq), .v (.int .i64 n), .im false 1 body.length (.ints .u8 body)] avs) (h : ∀ l, l = signL seq n body → l.length = 512 → k (.im true 1 l.length (.ints .u8 l)) H) : CallP Go.Proofs.Try.prog 96 avs H k :=
  CallP.mk ⟨_, sign_K.real, Con.spec sign_K, (seq, n, body), [], ⟨h0, rfl, trivial, ha⟩, fun l (hl : signRel (seq, n, body) l) => (numK_eq H.length (fun N => k (AV.ren (fren [] N) (.im true 1 l.length (.ints .u8 l))) (putAll H [] []))).mpr (by have := h l hl.1 hl.2; simpa [putAll, AV.ren, Cont.ren] using this)⟩
end Go.Proofs.Ytcfmlnddmpiemaa.Sx


set_option maxRecDepth 10000
namespace Go.Proofs.Ytcfmlnddmpiemaa.Sx
open Go.RowKit Go.Proofs.Ytcfmlnddmpiemaa.Sx.Tb
/-! ### What is done to a file, one behind the other, up to the first error -/
inductive FOp where
  | wr (at_ : Int) (xs : List Int)
  | fl
def FOp.size : FOp → Int
  | .wr _ xs => xs.length
  | .fl => 0
def DF.refB (s : DF) : Bool := (decide (0 < s.fail) && decide (s.ops + 1 = s.fail)) || (decide (0 < s.stop) && decide (s.stop ≤ s.ops + 1))
theorem DF.refB_iff (s : DF) : s.refB = true ↔ s.refused := by unfold DF.refB DF.refused; simp
def DF.doOp (s : DF) : FOp → Int × DF
  | .wr at_ xs => if s.refB = true then (5, s.asked) else if at_ < 0 then (4, s.asked) else if 4194304 - at_ < xs.length then (3, s.asked) else (0, s.wrote1 at_ xs)
  | .fl => if s.refB = true then (5, s.asked) else (0, s.flushed)
theorem DF.doOp_wr (s : DF) (at_ : Int) (xs : List Int) : s.doOp (.wr at_ xs) = if s.refB = true then (5, s.asked) else if at_ < 0 then (4, s.asked) else if 4194304 - at_ < xs.length then (3, s.asked) else (0, s.wrote1 at_ xs) := rfl
theorem DF.doOp_fl (s : DF) : s.doOp .fl = if s.refB = true then (5, s.asked) else (0, s.flushed) := rfl
def DF.run (s : DF) : List FOp → Int × DF
  | [] => (0, s)
  | op :: r => if (s.doOp op).1 = 0 then (s.doOp op).2.run r else s.doOp op
def cost : List FOp → Int
  | [] => 0
  | op :: r => 1 + op.size + cost r
theorem FOp.size_nonneg (op : FOp) : 0 ≤ op.size := by cases op <;> simp [FOp.size]
theorem cost_nonneg : ∀ (l : List FOp), 0 ≤ cost l
  | [] => Int.le_refl _
  | op :: r => by have := op.size_nonneg; have := cost_nonneg r; rw [cost]; omega
theorem cost_append : ∀ (l m : List FOp), cost (l ++ m) = cost l + cost m
  | [], m => by simp [cost]
  | op :: r, m => by rw [List.cons_append, cost, cost, cost_append r m]; omega
theorem DF.doOp_ok {s : DF} {n : Int} (h : s.Ok n) (op : FOp) : (s.doOp op).2.Ok (n + 1 + op.size) := by
  have := op.size_nonneg
  have ha : s.asked.Ok (n + 1 + op.size) := h.ask.mono (by omega)
  cases op with
  | wr at_ xs =>
    rw [DF.doOp_wr]
    rw [show (FOp.wr at_ xs).size = (xs.length : Int) from rfl] at *
    split
    · exact ha
    · split
      · exact ha
      · split
        · exact ha
        · exact (h.write (by omega) (by omega)).1
  | fl =>
    rw [DF.doOp_fl]
    split
    · exact ha
    · exact h.flush.mono (by omega)
theorem DF.run_ok : ∀ (l : List FOp) {s : DF} {n : Int}, s.Ok n → (s.run l).2.Ok (n + cost l)
  | [], s, n, h => by simpa [DF.run, cost] using h
  | op :: r, s, n, h => by
    have h1 := DF.doOp_ok h op
    have := cost_nonneg r
    rw [DF.run, cost]
    split
    · exact (DF.run_ok r h1).mono (by omega)
    · exact h1.mono (by omega)
theorem DF.run_append : ∀ (l m : List FOp) (s : DF), s.run (l ++ m) = if (s.run l).1 = 0 then (s.run l).2.run m else s.run l
  | [], m, s => by simp [DF.run]
  | op :: r, m, s => by
    rw [List.cons_append, DF.run, DF.run]
    by_cases h : (s.doOp op).1 = 0
    · rw [if_pos h, if_pos h]; exact DF.run_append r m _
    · rw [if_neg h, if_neg h, if_neg h]
theorem doWr_at {avs : List AV} {H : List Chunk} {k : K} (s : DF) (n : Int) (at_ : Int) (xs : List Int) (i : Nat) (h0 : s.Ok n ∧ n ≤ 549755813888) (hx : xs.length ≤ 1099511627776) (hc : nth H i = some s.pk) (ha : argsM H [i] [.p 0 0 1 0, .v (.int .i64 at_), .im false 1 xs.length (.ints .u8 xs)] avs)
    (h : k (.v (.int .i64 (s.doOp (.wr at_ xs)).1)) (H.set i (DF.pk (s.doOp (.wr at_ xs)).2))) : CallP Go.Proofs.Try.prog 68 avs H k := by
  have a1 := h0.1.ops
  have a2 := h0.1.wrote
  have a3 := h0.1.len
  have a4 := h0.1.now
  have a5 := h0.2
  refine write_at s at_ xs i ⟨a1.1, by omega, a2.1, by omega, hx, by omega, a4⟩ hc ha ?_
  intro r s' hr
  have e : s.doOp (.wr at_ xs) = (r, s') := by
    rw [DF.doOp_wr]
    rcases hr with ⟨rfl, x, rfl⟩ | ⟨rfl, x, y, rfl⟩ | ⟨rfl, x, y, z, rfl⟩ | ⟨rfl, x, y, z, rfl⟩
    · rw [if_pos ((DF.refB_iff s).2 x)]
    · rw [if_neg (fun h => x ((DF.refB_iff s).1 h)), if_pos y]
    · rw [if_neg (fun h => x ((DF.refB_iff s).1 h)), if_neg (by omega), if_pos (by omega)]
    · rw [if_neg (fun h => x ((DF.refB_iff s).1 h)), if_neg (by omega), if_neg (by omega)]
  rw [e] at h
  exact h
theorem doFl_at {avs : List AV} {H : List Chunk} {k : K} (s : DF) (n : Int) (i : Nat) (h0 : s.Ok n ∧ n ≤ 549755813888) (hc : nth H i = some s.pk) (ha : argsM H [i] [.p 0 0 1 0] avs)
    (h : k (.v (.int .i64 (s.doOp .fl).1)) (H.set i (DF.pk (s.doOp .fl).2))) : CallP Go.Proofs.Try.prog 69 avs H k := by
  have a1 := h0.1.ops
  have a4 := h0.1.now
  have a5 := h0.2
  refine flush_at s i ⟨a1.1, by omega, by omega⟩ hc ha ?_
  intro r s' hr
  have e : s.doOp .fl = (r, s') := by
    rw [DF.doOp_fl]
    rcases hr with ⟨rfl, x, rfl⟩ | ⟨rfl, x, rfl⟩
    · rw [if_pos ((DF.refB_iff s).2 x)]
    · rw [if_neg (fun h => x ((DF.refB_iff s).1 h))]
  rw [e] at h
  exact h
/-! ### The journal -/
structure JR where
  pos : Int
  size : Int
  seq : Int
def JR.blk (j : JR) (i : Nat) : Chunk := .blk 140 (.lst [.p i 0 1 0, .v (.int .i64 j.pos), .v (.int .i64 j.size), .v (.int .u64 j.seq)]) 4
def JR.Ok (j : JR) : Prop := 0 ≤ j.pos ∧ j.pos ≤ 4194304 ∧ 1024 ≤ j.size ∧ j.size ≤ 4194304 ∧ 0 ≤ j.seq ∧ j.seq < 18446744073709551616
theorem JR.noF (j : JR) (i : Nat) : ChunkNoF (j.blk i) := .blk ⟨trivial, trivial, trivial, trivial, trivial⟩
def JR.out (j : JR) (at_ n : Int) : Prop := 0 ≤ at_ ∧ 0 ≤ n ∧ at_ ≤ 4194304 ∧ n ≤ 4194304 - at_ ∧ (at_ + n ≤ j.pos ∨ j.pos + j.size ≤ at_)
theorem two_le {H : List Chunk} {f : Nat → Nat} {ph : Nat → Bool} {j : JR} {s : DF} (hf : f 1 = 1) (h : 2 ≤ H.length) (h0 : nth H 0 = some (j.blk 1)) (h1 : nth H 1 = some s.pk) : chunksLe H [] f ph [0, 1] [j.blk 1, s.pk] := by
  refine ⟨?_, ?_, trivial⟩
  · unfold Chunk.le JR.blk
    simp only
    rw [show Nat.blt 0 H.length = true by rw [Nat.blt_eq]; omega, h0]
    exact ⟨VC.mk ⟨rfl, rfl⟩, VC.mk ⟨hf, rfl, rfl, rfl⟩, VC.mk rfl, VC.mk rfl, VC.mk rfl, trivial⟩
  · unfold Chunk.le DF.pk
    simp only
    rw [show Nat.blt 1 H.length = true by rw [Nat.blt_eq]; omega, h1]
    exact VC.mk ⟨rfl, rfl, rfl, rfl⟩
theorem J2.good {j : JR} {s : DF} {v : AV} (h : v.noF) : Good 2 v [j.blk 1, s.pk] := ⟨h, fun c hc => by simp at hc; rcases hc with rfl | rfl; exact j.noF _; exact s.pk_noF, Nat.le_refl _⟩
theorem J2.nd {j : JR} {s : DF} : ∀ c ∈ [j.blk 1, s.pk], c.lives := by intro c hc; simp at hc; rcases hc with rfl | rfl <;> trivial
theorem fix2 {N : Nat} {σ : List Nat} : ∀ i, i < 2 → fren (0 :: 1 :: σ) N i = i := fun i hi => by
  match i, hi with
  | 0, _ => rfl
  | 1, _ => rfl
theorem J2.fin {H : List Chunk} {j : JR} {s : DF} {v : AV} {k : K} (h : Nat.ble 2 H.length = true) (h0 : nth H 0 = some (j.blk 1)) (h1 : nth H 1 = some s.pk) (hk : k v [j.blk 1, s.pk]) (hv : v.inN 2 := by simp [AV.inN, inNs, Cont.inN]) : Fin 2 v H k :=
  Fin.ren [0, 1] [] v [j.blk 1, s.pk] rfl rfl trivial (two_le rfl (Nat.le_of_ble_eq_true h) h0 h1) (AV.le_refl fix2 hv) hk
theorem lend_ints {H : List Chunk} {σ : List Nat} {a n c N : Nat} {t : TypeId} {xs : List Int} {kd : IntKind} (h : nth H a = some (.blk t (.ints kd xs) N)) (hn : xs.length = n) (hm : memN a σ = false) : lendTo H σ (.s a 0 1 n c) 1 n (.ints kd xs) := by
  subst hn
  show match nth H a with
    | some (.blk _ c0 _) => match c0.ext 1 0 xs.length with
      | some (ψ, d) => ψ ∧ (1:Nat) = 1 ∧ xs.length = xs.length ∧ d.low.same (.ints kd xs) ∧ memN a σ = false ∧ 0 < 1
      | none => False
    | _ => False
  rw [h]
  exact ⟨by omega, rfl, rfl, (by show Cont.ints kd ((xs.drop 0).take xs.length) = Cont.ints kd xs; simp), hm, Nat.one_pos⟩
theorem arg_ints {H : List Chunk} {σ : List Nat} {a n c N : Nat} {t : TypeId} {xs : List Int} {kd : IntKind} (h : nth H a = some (.blk t (.ints kd xs) N)) (hn : xs.length = n) (hm : memN a σ = false) : argM H σ (.im false 1 n (.ints kd xs)) (.s a 0 1 n c) := lend_ints (c := c) h hn hm
set_option maxHeartbeats 8000000 in
theorem outside_c (j : JR) (s : DF) (at_ n : Int) (k : K) (h0 : j.Ok) (hk : ∀ b : Bool, (b = true ↔ j.out at_ n) → k (.v (.bool b)) [j.blk 1, s.pk]) : evFunc tab [] p95 Go.Proofs.Try.f95 [.p 0 0 1 0, .v (.int .i64 at_), .v (.int .i64 n)] [j.blk 1, s.pk] k := by
  obtain ⟨h1, h2, h3, h4, h5, h6⟩ := h0
  repeat' (first
    | (with_reducible first | exact True.intro | apply And.intro | apply If_true | apply If_false | apply If_not)
    | ((with_reducible apply VC.mk); exact vt)
    | ((with_reducible apply If_dec) <;> intro hc <;> (try (exfalso; omega)))
    | ((with_reducible apply If_any) <;> intro hc)
    | ((with_reducible first | apply PF.mk | apply DrawP.mk); (focus kernel_rfl))
    | ((with_reducible apply Same.mk); (focus rfl); (first | exact trivial | exact rfl))
    | (intro cap hcap)
    | ((fail_if_success (with_reducible apply st)); conv => whnf))
  all_goals (refine Fin.same (hk _ ?_); unfold JR.out; simp; omega)
set_option maxHeartbeats 8000000 in
theorem room_c (j : JR) (s : DF) (k : K) (h0 : j.Ok) (hk : k (.v (.int .i64 (j.size - 512))) [j.blk 1, s.pk]) : evFunc tab [] [] Go.Proofs.Try.f41 [.p 0 0 1 0] [j.blk 1, s.pk] k := by
  obtain ⟨h1, h2, h3, h4, h5, h6⟩ := h0
  repeat' (first
    | (with_reducible first | exact True.intro | apply And.intro | apply If_true | apply If_false | apply If_not)
    | ((with_reducible apply VC.mk); exact vt)
    | ((with_reducible apply If_dec) <;> intro hc <;> (try (exfalso; omega)))
    | ((with_reducible apply If_any) <;> intro hc)
    | ((with_reducible first | apply PF.mk | apply DrawP.mk); (focus kernel_rfl))
    | ((with_reducible apply Same.mk); (focus rfl); (first | exact trivial | exact rfl))
    | (intro cap hcap)
    | ((fail_if_success (with_reducible apply st)); conv => whnf))
  exact Fin.same hk
def outsideOk (x : JR × DF × Int × Int) : Prop := x.1.Ok
def outsideRel (x : JR × DF × Int × Int) (r : Bool) : Prop := (r = true ↔ x.1.out x.2.2.1 x.2.2.2)
theorem outside_K : ConOk Go.Proofs.Try.prog 95 (Con.of (JR × DF × Int × Int) (Bool) (fun x => [.p 0 0 1 0, .v (.int .i64 x.2.2.1), .v (.int .i64 x.2.2.2)]) (fun x => [x.1.blk 1, x.2.1.pk]) outsideOk outsideRel (fun x r => .v (.bool r)) (fun x r => [JR.blk (x.1) 1, DF.pk (x.2.1)])) := by
  refine conOk_rel (T := tab) mix Go.Proofs.Try.func95 (by decide +kernel) (by kernel_rfl) [] p95 (fun n => by rw [Go.Proofs.Try.ntmps95]; exact Nat.le_of_ble_eq_true rfl) (fun x r _ _ => J2.good (by simp [AV.noF, noFs, Cont.noF])) (fun x _ => J2.nd) ?_
  intro x k h0 hk
  exact outside_c x.1 x.2.1 x.2.2.1 x.2.2.2 k h0 (fun r hr => hk r hr)
theorem outside_at {avs : List AV} {H : List Chunk} {k : K} (j : JR) (s : DF) (at_ : Int) (n : Int) (a b : Nat) (h0 : j.Ok) (hab : nodupN [a, b] = true) (ha0 : nth H a = some (j.blk b)) (hb0 : nth H b = some s.pk) (ha : argsM H [a, b] [.p 0 0 1 0, .v (.int .i64 at_), .v (.int .i64 n)] avs)
    (h : ∀ r : Bool, ((r = true ↔ j.out at_ n)) → k (.v (.bool r)) ((H.set a (JR.blk (j) b)).set b (DF.pk (s)))) : CallP Go.Proofs.Try.prog 95 avs H k :=
  CallP.mk ⟨_, outside_K.real, Con.spec outside_K, (j, s, at_, n), [a, b], ⟨h0, hab, ⟨ha0, hb0, trivial⟩, ha⟩, fun r hr => (numK_eq _ _).mpr (by simpa [putAll, AV.ren, rens, Cont.ren, Chunk.ren, DF.pk, JR.blk, fren, nth] using h r hr)⟩
def roomOk (x : JR × DF) : Prop := x.1.Ok
def roomRel (x : JR × DF) (r : Unit) : Prop := True
theorem room_K : ConOk Go.Proofs.Try.prog 41 (Con.of (JR × DF) (Unit) (fun x => [.p 0 0 1 0]) (fun x => [x.1.blk 1, x.2.pk]) roomOk roomRel (fun x r => .v (.int .i64 (x.1.size - 512))) (fun x r => [JR.blk (x.1) 1, DF.pk (x.2)])) := by
  refine conOk_rel (T := tab) mix Go.Proofs.Try.func41 (by decide +kernel) (by kernel_rfl) [] [] (fun n => by rw [Go.Proofs.Try.ntmps41]; exact Nat.le_of_ble_eq_true rfl) (fun x r _ _ => J2.good (by simp [AV.noF, noFs, Cont.noF])) (fun x _ => J2.nd) ?_
  intro x k h0 hk
  exact room_c x.1 x.2 k h0 (hk () trivial)
theorem room_at {avs : List AV} {H : List Chunk} {k : K} (j : JR) (s : DF) (a b : Nat) (h0 : j.Ok) (hab : nodupN [a, b] = true) (ha0 : nth H a = some (j.blk b)) (hb0 : nth H b = some s.pk) (ha : argsM H [a, b] [.p 0 0 1 0] avs)
    (h : ∀ r : Unit, (True) → k (.v (.int .i64 (j.size - 512))) ((H.set a (JR.blk (j) b)).set b (DF.pk (s)))) : CallP Go.Proofs.Try.prog 41 avs H k :=
  CallP.mk ⟨_, room_K.real, Con.spec room_K, (j, s), [a, b], ⟨h0, hab, ⟨ha0, hb0, trivial⟩, ha⟩, fun r hr => (numK_eq _ _).mpr (by simpa [putAll, AV.ren, rens, Cont.ren, Chunk.ren, DF.pk, JR.blk, fren, nth] using h r hr)⟩
theorem DF.run2 (s : DF) (a : FOp) : s.run [a, .fl] = if (s.doOp a).1 = 0 then (s.doOp a).2.doOp .fl else s.doOp a := by
  rw [DF.run, DF.run, DF.run]; split
  · split
    · rename_i hh; exact Prod.ext hh.symm rfl
    · rfl
  · rfl
set_option maxHeartbeats 8000000 in
theorem clear_c (j : JR) (s : DF) (n : Int) (z : List Int) (k : K) (h0 : j.Ok ∧ s.Ok n ∧ n ≤ 274877906944 ∧ z = List.replicate 512 0) (hk : ∀ x : Int × DF, x = s.run [.wr j.pos z, .fl] → k (.v (.int .i64 x.1)) [j.blk 1, x.2.pk]) : evFunc tab [] p97 Go.Proofs.Try.f97 [.p 0 0 1 0] [j.blk 1, s.pk] k := by
  obtain ⟨⟨h1, h2, h3, h4, h5, h6⟩, h7, h8, hz⟩ := h0
  have hl : z.length = 512 := by rw [hz]; exact List.length_replicate ..
  repeat' (first
    | (with_reducible first | exact True.intro | apply And.intro | apply If_true | apply If_false | apply If_not)
    | ((with_reducible apply VC.mk); exact vt)
    | ((with_reducible apply If_dec) <;> intro hc <;> (try (exfalso; omega)))
    | ((with_reducible apply If_any) <;> intro hc)
    | ((with_reducible first | apply PF.mk | apply DrawP.mk); (focus kernel_rfl))
    | ((with_reducible apply Same.mk); (focus rfl); (first | exact trivial | exact rfl))
    | (intro cap hcap)
    | ((fail_if_success (with_reducible apply st)); conv => whnf))
  rw [show List.replicate (Int.toNat 512) (0:Int) = z from hz.symm]
  obtain ⟨C, hC⟩ : ∃ C : Nat, C = Int.toNat 512 := ⟨_, rfl⟩
  rw [← hC]
  have hC2 : C = z.length := by rw [hl, hC]; rfl
  have hC3 : C * 1 = C := by omega
  simp only [hC3]
  rw [hC2]
  refine doWr_at s n j.pos z 1 ⟨h7, by omega⟩ (by omega) rfl ⟨rfl, rfl, arg_ints rfl rfl rfl, trivial⟩ ?_
  have o1 := DF.doOp_ok h7 (.wr j.pos z)
  have e1 := s.run2 (.wr j.pos z)
  rw [show (FOp.wr j.pos z).size = (z.length : Int) from rfl] at o1
  obtain ⟨x, hx⟩ : ∃ x, x = s.doOp (.wr j.pos z) := ⟨_, rfl⟩
  rw [← hx] at o1 e1
  rw [← hx]
  repeat' (first
    | (with_reducible first | exact True.intro | apply And.intro | apply If_true | apply If_false | apply If_not)
    | ((with_reducible apply VC.mk); exact vt)
    | ((with_reducible apply If_dec) <;> intro hc <;> (try (exfalso; omega)))
    | ((with_reducible apply If_any) <;> intro hc)
    | ((with_reducible first | apply PF.mk | apply DrawP.mk); (focus kernel_rfl))
    | ((with_reducible apply Same.mk); (focus rfl); (first | exact trivial | exact rfl))
    | (intro cap hcap)
    | ((fail_if_success (with_reducible apply st)); conv => whnf))
  · rw [if_neg hc] at e1
    exact J2.fin rfl rfl rfl (hk x e1.symm)
  · rw [if_pos (Decidable.not_not.mp hc)] at e1
    refine doFl_at x.2 (n + 1 + z.length) 1 ⟨o1, by omega⟩ rfl ⟨rfl, trivial⟩ ?_
    obtain ⟨y, hy⟩ : ∃ y, y = x.2.doOp .fl := ⟨_, rfl⟩
    rw [← hy] at e1
    rw [← hy]
    repeat' (first
    | (with_reducible first | exact True.intro | apply And.intro | apply If_true | apply If_false | apply If_not)
    | ((with_reducible apply VC.mk); exact vt)
    | ((with_reducible apply If_dec) <;> intro hc <;> (try (exfalso; omega)))
    | ((with_reducible apply If_any) <;> intro hc)
    | ((with_reducible first | apply PF.mk | apply DrawP.mk); (focus kernel_rfl))
    | ((with_reducible apply Same.mk); (focus rfl); (first | exact trivial | exact rfl))
    | (intro cap hcap)
    | ((fail_if_success (with_reducible apply st)); conv => whnf))
    exact J2.fin rfl rfl rfl (hk y e1.symm)
def clearOk (x : JR × DF × Int × List Int) : Prop := x.1.Ok ∧ x.2.1.Ok x.2.2.1 ∧ x.2.2.1 ≤ 274877906944 ∧ x.2.2.2 = List.replicate 512 0
def clearRel (x : JR × DF × Int × List Int) (r : Int × DF) : Prop := r = x.2.1.run [.wr x.1.pos x.2.2.2, .fl]
theorem clear_K : ConOk Go.Proofs.Try.prog 97 (Con.of (JR × DF × Int × List Int) (Int × DF) (fun x => [.p 0 0 1 0]) (fun x => [x.1.blk 1, x.2.1.pk]) clearOk clearRel (fun x r => .v (.int .i64 r.1)) (fun x r => [JR.blk (x.1) 1, DF.pk (r.2)])) := by
  refine conOk_rel (T := tab) mix Go.Proofs.Try.func97 (by decide +kernel) (by kernel_rfl) [] p97 (fun n => by rw [Go.Proofs.Try.ntmps97]; exact Nat.le_of_ble_eq_true rfl) (fun x r _ _ => J2.good (by simp [AV.noF, noFs, Cont.noF])) (fun x _ => J2.nd) ?_
  intro x k h0 hk
  exact clear_c x.1 x.2.1 x.2.2.1 x.2.2.2 k h0 (fun r hr => hk r hr)
theorem clear_at {avs : List AV} {H : List Chunk} {k : K} (j : JR) (s : DF) (n : Int) (z : List Int) (a b : Nat) (h0 : j.Ok ∧ s.Ok n ∧ n ≤ 274877906944 ∧ z = List.replicate 512 0) (hab : nodupN [a, b] = true) (ha0 : nth H a = some (j.blk b)) (hb0 : nth H b = some s.pk) (ha : argsM H [a, b] [.p 0 0 1 0] avs)
    (h : ∀ r : Int × DF, (r = s.run [.wr j.pos z, .fl]) → k (.v (.int .i64 r.1)) ((H.set a (JR.blk (j) b)).set b (DF.pk (r.2)))) : CallP Go.Proofs.Try.prog 97 avs H k :=
  CallP.mk ⟨_, clear_K.real, Con.spec clear_K, (j, s, n, z), [a, b], ⟨h0, hab, ⟨ha0, hb0, trivial⟩, ha⟩, fun r hr => (numK_eq _ _).mpr (by simpa [putAll, AV.ren, rens, Cont.ren, Chunk.ren, DF.pk, JR.blk, fren, nth] using h r hr)⟩
def wrs (rs : List RecR) : List FOp := rs.map (fun r => .wr r.1 r.2)
theorem DF.run1 (s : DF) (a : FOp) : s.run [a] = s.doOp a := by
  rw [DF.run, DF.run]; split
  · rename_i hh; exact Prod.ext hh.symm rfl
  · rfl
theorem DF.run_bad {s : DF} {l : List FOp} (h : (s.run l).1 ≠ 0) (m : List FOp) : s.run (l ++ m) = s.run l := by rw [DF.run_append, if_neg h]
theorem DF.run_good {s s' : DF} {l : List FOp} (h : s.run l = (0, s')) (m : List FOp) : s.run (l ++ m) = s'.run m := by rw [DF.run_append, h]; rfl
theorem wrs_snoc (rs : List RecR) (i : Nat) (h : i < rs.length) : wrs (rs.take (i + 1)) = wrs (rs.take i) ++ [.wr (rs.getD i (0, [])).1 (rs.getD i (0, [])).2] := by
  unfold wrs
  rw [List.take_add_one, List.map_append]
  congr 1
  simp [List.getD_eq_getElem?_getD, h]
theorem wrs_cut (rs : List RecR) (i : Nat) : wrs rs = wrs (rs.take i) ++ wrs (rs.drop i) := by
  unfold wrs; rw [← List.map_append, List.take_append_drop]
theorem cost_take (rs : List RecR) (i : Nat) : cost (wrs (rs.take i)) ≤ cost (wrs rs) := by
  have := cost_nonneg (wrs (rs.drop i))
  rw [wrs_cut rs i, cost_append]; omega
set_option maxHeartbeats 8000000 in
theorem apply_c (j : JR) (s : DF) (n : Int) (z : List Int) (rs : List RecR) (k : K) (h0 : j.Ok ∧ s.Ok n ∧ n ≤ 137438953472 ∧ rs.length ≤ 1073741824 ∧ (∀ r ∈ rs, r.2.length ≤ 1073741824) ∧ cost (wrs rs) ≤ 68719476736 ∧ z = List.replicate 512 0) (hk : ∀ x : Int × DF, x = s.run (wrs rs ++ [.fl, .wr j.pos z, .fl]) → k (.v (.int .i64 x.1)) [j.blk 1, x.2.pk]) : evFunc tab [] p71 Go.Proofs.Try.f71 [.p 0 0 1 0, .im false 2 rs.length (recsC false rs)] [j.blk 1, s.pk] k := by
  obtain ⟨hj, h7, h8, h9, h10, h11, hz⟩ := h0
  have hc0 := cost_nonneg (wrs rs)
  repeat' (first
    | (with_reducible first | exact True.intro | apply And.intro | apply If_true | apply If_false | apply If_not)
    | ((with_reducible apply VC.mk); exact vt)
    | ((with_reducible apply If_dec) <;> intro hc <;> (try (exfalso; omega)))
    | ((with_reducible apply If_any) <;> intro hc)
    | ((with_reducible first | apply PF.mk | apply DrawP.mk); (focus kernel_rfl))
    | ((with_reducible apply Same.mk); (focus rfl); (first | exact trivial | exact rfl))
    | (intro cap hcap)
    | ((fail_if_success (with_reducible apply st)); conv => whnf))
  refine LoopP.mk ⟨Nat × DF, fun y => y.1 ≤ rs.length ∧ s.run (wrs (rs.take y.1)) = (0, y.2), fun y => ([(0, .p 0 0 1 0), (11, .im false 2 rs.length (recsC false rs)), (12, .v (.int .i64 rs.length)), (13, .v (.int .i64 y.1))], [j.blk 1, y.2.pk]), fun y => rs.length - y.1, (0, s), ⟨Nat.zero_le _, rfl⟩, Fit.ren [0, 1] [] rfl rfl trivial (two_le rfl (Nat.le_of_ble_eq_true rfl) rfl rfl) ?_, ?_⟩
  · repeat' (first
    | (with_reducible first | exact True.intro | apply And.intro | apply If_true | apply If_false | apply If_not)
    | ((with_reducible apply VC.mk); exact vt)
    | ((with_reducible apply If_dec) <;> intro hc <;> (try (exfalso; omega)))
    | ((with_reducible apply If_any) <;> intro hc)
    | ((with_reducible first | apply PF.mk | apply DrawP.mk); (focus kernel_rfl))
    | ((with_reducible apply Same.mk); (focus rfl); (first | exact trivial | exact rfl))
    | (intro cap hcap)
    | ((fail_if_success (with_reducible apply st)); conv => whnf))
  · intro y hy
    obtain ⟨g1, g2⟩ := hy
    have e : ((y.1 : Nat) : Int).toNat = y.1 := Int.toNat_natCast _
    have o := DF.run_ok (wrs (rs.take y.1)) h7
    rw [g2] at o
    have o1 := cost_take rs y.1
    have o2 : y.2.Ok (n + cost (wrs (rs.take y.1))) := o
    by_cases hlt : y.1 < rs.length
    · have hm : rs.getD y.1 (0, []) ∈ rs := by
        rw [show rs.getD y.1 (0, []) = rs[y.1] by simp [List.getD_eq_getElem?_getD, hlt]]; exact List.getElem_mem hlt
      have hok := h10 _ hm
      have hsn := wrs_snoc rs y.1 hlt
      repeat' (first
    | (with_reducible first | exact True.intro | apply And.intro | apply If_true | apply If_false | apply If_not)
    | ((with_reducible apply VC.mk); exact vt)
    | ((with_reducible apply If_dec) <;> intro hc <;> (try (exfalso; omega)))
    | ((with_reducible apply If_any) <;> intro hc)
    | ((with_reducible first | apply PF.mk | apply DrawP.mk); (focus kernel_rfl))
    | ((with_reducible apply Same.mk); (focus rfl); (first | exact trivial | exact rfl))
    | (intro cap hcap)
    | ((fail_if_success (with_reducible apply st)); conv => whnf))
      simp only [e] at *
      generalize rs.getD y.1 (0, []) = r at *
      refine doWr_at y.2 (n + cost (wrs (rs.take y.1))) r.1 r.2 1 ⟨o2, by omega⟩ (by omega) rfl ⟨rfl, rfl, ⟨rfl, rfl, rfl⟩, trivial⟩ ?_
      have e1 : s.run (wrs (rs.take (y.1 + 1))) = y.2.doOp (.wr r.1 r.2) := by rw [hsn, DF.run_good g2, DF.run1]
      obtain ⟨x, hx⟩ : ∃ x, x = y.2.doOp (.wr r.1 r.2) := ⟨_, rfl⟩
      rw [← hx] at e1
      rw [← hx]
      repeat' (first
    | (with_reducible first | exact True.intro | apply And.intro | apply If_true | apply If_false | apply If_not)
    | ((with_reducible apply VC.mk); exact vt)
    | ((with_reducible apply If_dec) <;> intro hc <;> (try (exfalso; omega)))
    | ((with_reducible apply If_any) <;> intro hc)
    | ((with_reducible first | apply PF.mk | apply DrawP.mk); (focus kernel_rfl))
    | ((with_reducible apply Same.mk); (focus rfl); (first | exact trivial | exact rfl))
    | (intro cap hcap)
    | ((fail_if_success (with_reducible apply st)); conv => whnf))
      · have e2 : s.run (wrs rs ++ [.fl, .wr j.pos z, .fl]) = x := by
          rw [wrs_cut rs (y.1 + 1), List.append_assoc, DF.run_bad (by rw [e1]; exact hc), e1]
        exact J2.fin rfl rfl rfl (hk x e2.symm)
      · refine Round.mk ⟨(y.1 + 1, x.2), ⟨by show y.1 + 1 ≤ _; omega, by rw [e1]; exact Prod.ext (Decidable.not_not.mp hc) rfl⟩, by show rs.length - (y.1 + 1) < rs.length - y.1; omega, Fit.ren [0, 1] [] rfl rfl trivial (two_le rfl (Nat.le_of_ble_eq_true rfl) rfl rfl) ?_⟩
        repeat' (first
    | (with_reducible first | exact True.intro | apply And.intro | apply If_true | apply If_false | apply If_not)
    | ((with_reducible apply VC.mk); exact vt)
    | ((with_reducible apply If_dec) <;> intro hc <;> (try (exfalso; omega)))
    | ((with_reducible apply If_any) <;> intro hc)
    | ((with_reducible first | apply PF.mk | apply DrawP.mk); (focus kernel_rfl))
    | ((with_reducible apply Same.mk); (focus rfl); (first | exact trivial | exact rfl))
    | (intro cap hcap)
    | ((fail_if_success (with_reducible apply st)); conv => whnf))
    · have e5 : rs.take y.1 = rs := List.take_of_length_le (by omega)
      rw [e5] at g2 o2
      repeat' (first
    | (with_reducible first | exact True.intro | apply And.intro | apply If_true | apply If_false | apply If_not)
    | ((with_reducible apply VC.mk); exact vt)
    | ((with_reducible apply If_dec) <;> intro hc <;> (try (exfalso; omega)))
    | ((with_reducible apply If_any) <;> intro hc)
    | ((with_reducible first | apply PF.mk | apply DrawP.mk); (focus kernel_rfl))
    | ((with_reducible apply Same.mk); (focus rfl); (first | exact trivial | exact rfl))
    | (intro cap hcap)
    | ((fail_if_success (with_reducible apply st)); conv => whnf))
      refine doFl_at y.2 (n + cost (wrs rs)) 1 ⟨o2, by omega⟩ rfl ⟨rfl, trivial⟩ ?_
      have e1 := DF.run_good g2 [.fl, .wr j.pos z, .fl]
      rw [DF.run] at e1
      have o3 := DF.doOp_ok o2 .fl
      rw [show FOp.fl.size = 0 from rfl] at o3
      obtain ⟨x, hx⟩ : ∃ x, x = y.2.doOp .fl := ⟨_, rfl⟩
      rw [← hx] at e1 o3
      rw [← hx]
      repeat' (first
    | (with_reducible first | exact True.intro | apply And.intro | apply If_true | apply If_false | apply If_not)
    | ((with_reducible apply VC.mk); exact vt)
    | ((with_reducible apply If_dec) <;> intro hc <;> (try (exfalso; omega)))
    | ((with_reducible apply If_any) <;> intro hc)
    | ((with_reducible first | apply PF.mk | apply DrawP.mk); (focus kernel_rfl))
    | ((with_reducible apply Same.mk); (focus rfl); (first | exact trivial | exact rfl))
    | (intro cap hcap)
    | ((fail_if_success (with_reducible apply st)); conv => whnf))
      · rw [if_neg hc] at e1
        exact J2.fin rfl rfl rfl (hk x e1.symm)
      · rw [if_pos (Decidable.not_not.mp hc)] at e1
        refine clear_at j x.2 (n + cost (wrs rs) + 1 + 0) z 0 1 ⟨hj, o3, by omega, hz⟩ rfl rfl rfl ⟨rfl, trivial⟩ ?_
        intro q hq
        repeat' (first
    | (with_reducible first | exact True.intro | apply And.intro | apply If_true | apply If_false | apply If_not)
    | ((with_reducible apply VC.mk); exact vt)
    | ((with_reducible apply If_dec) <;> intro hc <;> (try (exfalso; omega)))
    | ((with_reducible apply If_any) <;> intro hc)
    | ((with_reducible first | apply PF.mk | apply DrawP.mk); (focus kernel_rfl))
    | ((with_reducible apply Same.mk); (focus rfl); (first | exact trivial | exact rfl))
    | (intro cap hcap)
    | ((fail_if_success (with_reducible apply st)); conv => whnf))
        exact J2.fin rfl rfl rfl (hk q (by rw [e1]; exact hq))
def applyOk (x : JR × DF × Int × List Int × List RecR) : Prop := x.1.Ok ∧ x.2.1.Ok x.2.2.1 ∧ x.2.2.1 ≤ 137438953472 ∧ x.2.2.2.2.length ≤ 1073741824 ∧ (∀ r ∈ x.2.2.2.2, r.2.length ≤ 1073741824) ∧ cost (wrs x.2.2.2.2) ≤ 68719476736 ∧ x.2.2.2.1 = List.replicate 512 0
def applyRel (x : JR × DF × Int × List Int × List RecR) (r : Int × DF) : Prop := r = x.2.1.run (wrs x.2.2.2.2 ++ [.fl, .wr x.1.pos x.2.2.2.1, .fl])
theorem apply_K : ConOk Go.Proofs.Try.prog 71 (Con.of (JR × DF × Int × List Int × List RecR) (Int × DF) (fun x => [.p 0 0 1 0, .im false 2 x.2.2.2.2.length (recsC false x.2.2.2.2)]) (fun x => [x.1.blk 1, x.2.1.pk]) applyOk applyRel (fun x r => .v (.int .i64 r.1)) (fun x r => [JR.blk (x.1) 1, DF.pk (r.2)])) := by
  refine conOk_rel (T := tab) mix Go.Proofs.Try.func71 (by decide +kernel) (by kernel_rfl) [] p71 (fun n => by rw [Go.Proofs.Try.ntmps71]; exact Nat.le_of_ble_eq_true rfl) (fun x r _ _ => J2.good (by simp [AV.noF, noFs, Cont.noF])) (fun x _ => J2.nd) ?_
  intro x k h0 hk
  exact apply_c x.1 x.2.1 x.2.2.1 x.2.2.2.1 x.2.2.2.2 k h0 (fun r hr => hk r hr)
theorem apply_at {avs : List AV} {H : List Chunk} {k : K} (j : JR) (s : DF) (n : Int) (z : List Int) (rs : List RecR) (a b : Nat) (h0 : j.Ok ∧ s.Ok n ∧ n ≤ 137438953472 ∧ rs.length ≤ 1073741824 ∧ (∀ r ∈ rs, r.2.length ≤ 1073741824) ∧ cost (wrs rs) ≤ 68719476736 ∧ z = List.replicate 512 0) (hab : nodupN [a, b] = true) (ha0 : nth H a = some (j.blk b)) (hb0 : nth H b = some s.pk) (ha : argsM H [a, b] [.p 0 0 1 0, .im false 2 rs.length (recsC false rs)] avs)
    (h : ∀ r : Int × DF, (r = s.run (wrs rs ++ [.fl, .wr j.pos z, .fl])) → k (.v (.int .i64 r.1)) ((H.set a (JR.blk (j) b)).set b (DF.pk (r.2)))) : CallP Go.Proofs.Try.prog 71 avs H k :=
  CallP.mk ⟨_, apply_K.real, Con.spec apply_K, (j, s, n, z, rs), [a, b], ⟨h0, hab, ⟨ha0, hb0, trivial⟩, ha⟩, fun r hr => (numK_eq _ _).mpr (by simpa [putAll, AV.ren, rens, Cont.ren, Chunk.ren, DF.pk, JR.blk, fren, nth] using h r hr)⟩
end Go.Proofs.Ytcfmlnddmpiemaa.Sx


set_option maxRecDepth 10000
namespace Go.Proofs.Ytcfmlnddmpiemaa.Sx
open Go.RowKit Go.Proofs.Ytcfmlnddmpiemaa.Sx.Tb
/-! ### Commit -/
theorem encL_B8 : ∀ {rs : List RecR}, (∀ r ∈ rs, B8 r.2) → B8 (encL rs)
  | [], h => B8.nil
  | r :: rs, h => by
    have e : encL (r :: rs) = enc1 r ++ encL rs := rfl
    rw [e]
    exact (((leB_B8 8 r.1).append (leB_B8 4 _)).append (h r (List.mem_cons_self ..))).append (encL_B8 (fun q hq => h q (List.mem_cons_of_mem _ hq)))
def JR.next (j : JR) : JR := { j with seq := (j.seq + 1) % 18446744073709551616 }
def comRel (j : JR) (s : DF) (rs : List RecR) (r : Int × JR × DF) : Prop :=
  ¬ (∀ q ∈ rs, j.out q.1 q.2.length) ∧ r = (4, j, s) ∨
  (∀ q ∈ rs, j.out q.1 q.2.length) ∧ j.size - 512 < (encL rs).length ∧ r = (15, j, s) ∨
  (∀ q ∈ rs, j.out q.1 q.2.length) ∧ (encL rs).length ≤ j.size - 512 ∧ ∃ x, x = s.run [.wr (j.pos + 512) (encL rs), .fl] ∧ (x.1 ≠ 0 ∧ r = (x.1, j, x.2) ∨ x.1 = 0 ∧ ∃ sg, sg = signL j.next.seq rs.length (encL rs) ∧ ∃ y, y = x.2.run [.wr j.pos sg, .fl] ∧ r = (y.1, j.next, y.2))
theorem wrap_u64 (x : Int) : IntKind.u64.wrap x = x % 18446744073709551616 := by simp [IntKind.wrap, IntKind.signed, IntKind.bits]
theorem JR.next_ok {j : JR} (h : j.Ok) : j.next.Ok := by
  obtain ⟨h1, h2, h3, h4, h5, h6⟩ := h
  refine ⟨h1, h2, h3, h4, ?_, ?_⟩
  · show 0 ≤ (j.seq + 1) % 18446744073709551616
    omega
  · show (j.seq + 1) % 18446744073709551616 < _
    omega
set_option maxHeartbeats 16000000 in
theorem commit_c (j : JR) (s : DF) (n : Int) (rs : List RecR) (k : K) (h0 : j.Ok ∧ s.Ok n ∧ n ≤ 137438953472 ∧ rs.length ≤ 1073741824 ∧ (encL rs).length ≤ 1099511627776 ∧ ∀ r ∈ rs, r.2.length ≤ 1073741824 ∧ B8 r.2) (hk : ∀ x : Int × JR × DF, comRel j s rs x → k (.v (.int .i64 x.1)) [x.2.1.blk 1, x.2.2.pk]) : evFunc tab [61] p70 Go.Proofs.Try.f70 [.p 0 0 1 0, .im false 2 rs.length (recsC false rs)] [j.blk 1, s.pk] k := by
  obtain ⟨hj, h7, h8, h9, h10, h11⟩ := h0
  have hj0 := hj
  obtain ⟨j1, j2, j3, j4, j5, j6⟩ := hj0
  repeat' (first
    | (with_reducible first | exact True.intro | apply And.intro | apply If_true | apply If_false | apply If_not)
    | ((with_reducible apply VC.mk); exact vt)
    | ((with_reducible apply If_dec) <;> intro hc <;> (try (exfalso; omega)))
    | ((with_reducible apply If_any) <;> intro hc)
    | ((with_reducible first | apply PF.mk | apply DrawP.mk); (focus kernel_rfl))
    | ((with_reducible apply Same.mk); (focus rfl); (first | exact trivial | exact rfl))
    | (intro cap hcap)
    | ((fail_if_success (with_reducible apply st)); conv => whnf))
  refine LoopP.mk ⟨Nat, fun y => y ≤ rs.length ∧ ∀ q ∈ rs.take y, j.out q.1 q.2.length, fun y => ([(0, .p 0 0 1 0), (1, .im false 2 rs.length (recsC false rs)), (13, .im false 2 rs.length (recsC false rs)), (14, .v (.int .i64 rs.length)), (15, .v (.int .i64 y))], [j.blk 1, s.pk]), fun y => rs.length - y, 0, ⟨Nat.zero_le _, by simp⟩, Fit.ren [0, 1] [] rfl rfl trivial (two_le rfl (Nat.le_of_ble_eq_true rfl) rfl rfl) ?_, ?_⟩
  · repeat' (first
    | (with_reducible first | exact True.intro | apply And.intro | apply If_true | apply If_false | apply If_not)
    | ((with_reducible apply VC.mk); exact vt)
    | ((with_reducible apply If_dec) <;> intro hc <;> (try (exfalso; omega)))
    | ((with_reducible apply If_any) <;> intro hc)
    | ((with_reducible first | apply PF.mk | apply DrawP.mk); (focus kernel_rfl))
    | ((with_reducible apply Same.mk); (focus rfl); (first | exact trivial | exact rfl))
    | (intro cap hcap)
    | ((fail_if_success (with_reducible apply st)); conv => whnf))
  · intro y hy
    obtain ⟨g1, g2⟩ := hy
    have e : ((y : Nat) : Int).toNat = y := Int.toNat_natCast _
    by_cases hlt : y < rs.length
    · have hm : rs.getD y (0, []) ∈ rs := by
        rw [show rs.getD y (0, []) = rs[y] by simp [List.getD_eq_getElem?_getD, hlt]]; exact List.getElem_mem hlt
      have hok := (h11 _ hm).1
      repeat' (first
    | (with_reducible first | exact True.intro | apply And.intro | apply If_true | apply If_false | apply If_not)
    | ((with_reducible apply VC.mk); exact vt)
    | ((with_reducible apply If_dec) <;> intro hc <;> (try (exfalso; omega)))
    | ((with_reducible apply If_any) <;> intro hc)
    | ((with_reducible first | apply PF.mk | apply DrawP.mk); (focus kernel_rfl))
    | ((with_reducible apply Same.mk); (focus rfl); (first | exact trivial | exact rfl))
    | (intro cap hcap)
    | ((fail_if_success (with_reducible apply st)); conv => whnf))
      simp only [e] at *
      have ht : rs.take (y + 1) = rs.take y ++ [rs.getD y (0, [])] := by
        rw [List.take_add_one]; congr 1; simp [List.getD_eq_getElem?_getD, hlt]
      generalize rs.getD y (0, []) = r at *
      refine outside_at j s r.1 (r.2.length : Int) 0 1 hj rfl rfl rfl ⟨rfl, rfl, rfl, trivial⟩ ?_
      intro b hb
      repeat' (first
    | (with_reducible first | exact True.intro | apply And.intro | apply If_true | apply If_false | apply If_not)
    | ((with_reducible apply VC.mk); exact vt)
    | ((with_reducible apply If_dec) <;> intro hc <;> (try (exfalso; omega)))
    | ((with_reducible apply If_any) <;> intro hc)
    | ((with_reducible first | apply PF.mk | apply DrawP.mk); (focus kernel_rfl))
    | ((with_reducible apply Same.mk); (focus rfl); (first | exact trivial | exact rfl))
    | (intro cap hcap)
    | ((fail_if_success (with_reducible apply st)); conv => whnf))
      · refine Round.mk ⟨y + 1, ⟨by show y + 1 ≤ _; omega, fun q hq => ?_⟩, by show rs.length - (y + 1) < rs.length - y; omega, Fit.ren [0, 1] [] rfl rfl trivial (two_le rfl (Nat.le_of_ble_eq_true rfl) rfl rfl) ?_⟩
        · rw [ht, List.mem_append] at hq
          rcases hq with hq | hq
          · exact g2 q hq
          · rw [List.mem_singleton] at hq; subst hq; exact hb.1 hc
        · repeat' (first
    | (with_reducible first | exact True.intro | apply And.intro | apply If_true | apply If_false | apply If_not)
    | ((with_reducible apply VC.mk); exact vt)
    | ((with_reducible apply If_dec) <;> intro hc <;> (try (exfalso; omega)))
    | ((with_reducible apply If_any) <;> intro hc)
    | ((with_reducible first | apply PF.mk | apply DrawP.mk); (focus kernel_rfl))
    | ((with_reducible apply Same.mk); (focus rfl); (first | exact trivial | exact rfl))
    | (intro cap hcap)
    | ((fail_if_success (with_reducible apply st)); conv => whnf))
      · exact J2.fin rfl rfl rfl (hk (4, j, s) (.inl ⟨fun h => (by rw [hb.2 (h r hm)] at hc; cases hc), rfl⟩))
    · have e5 : rs.take y = rs := List.take_of_length_le (by omega)
      rw [e5] at g2
      repeat' (first
    | (with_reducible first | exact True.intro | apply And.intro | apply If_true | apply If_false | apply If_not)
    | ((with_reducible apply VC.mk); exact vt)
    | ((with_reducible apply If_dec) <;> intro hc <;> (try (exfalso; omega)))
    | ((with_reducible apply If_any) <;> intro hc)
    | ((with_reducible first | apply PF.mk | apply DrawP.mk); (focus kernel_rfl))
    | ((with_reducible apply Same.mk); (focus rfl); (first | exact trivial | exact rfl))
    | (intro cap hcap)
    | ((fail_if_success (with_reducible apply st)); conv => whnf))
      refine enc_at rs ⟨by omega, h10, fun q hq => ?_⟩ ⟨⟨rfl, rfl, ⟨rfl, rfl, fun _ _ => rfl⟩⟩, trivial⟩ ?_
      · have := g2 q hq; have := h11 q hq; unfold JR.out at *; unfold recOk; omega
      intro body hbody
      have hbl : body.length ≤ 1099511627776 := by rw [hbody]; exact h10
      have hb8 : B8 body := by rw [hbody]; exact encL_B8 (fun q hq => (h11 q hq).2)
      repeat' (first
    | (with_reducible first | exact True.intro | apply And.intro | apply If_true | apply If_false | apply If_not)
    | ((with_reducible apply VC.mk); exact vt)
    | ((with_reducible apply If_dec) <;> intro hc <;> (try (exfalso; omega)))
    | ((with_reducible apply If_any) <;> intro hc)
    | ((with_reducible first | apply PF.mk | apply DrawP.mk); (focus kernel_rfl))
    | ((with_reducible apply Same.mk); (focus rfl); (first | exact trivial | exact rfl))
    | (intro cap hcap)
    | ((fail_if_success (with_reducible apply st)); conv => whnf))
      refine room_at j s 0 1 hj rfl rfl rfl ⟨rfl, trivial⟩ ?_
      intro _ _
      repeat' (first
    | (with_reducible first | exact True.intro | apply And.intro | apply If_true | apply If_false | apply If_not)
    | ((with_reducible apply VC.mk); exact vt)
    | ((with_reducible apply If_dec) <;> intro hc <;> (try (exfalso; omega)))
    | ((with_reducible apply If_any) <;> intro hc)
    | ((with_reducible first | apply PF.mk | apply DrawP.mk); (focus kernel_rfl))
    | ((with_reducible apply Same.mk); (focus rfl); (first | exact trivial | exact rfl))
    | (intro cap hcap)
    | ((fail_if_success (with_reducible apply st)); conv => whnf))
      · exact J2.fin rfl rfl rfl (hk (15, j, s) (.inr (.inl ⟨g2, by rw [← hbody]; omega, rfl⟩)))
      have hbr : (body.length : Int) ≤ j.size - 512 := by omega
      refine doWr_at s n (j.pos + 512) body 1 ⟨h7, by omega⟩ (by omega) rfl ⟨rfl, rfl, ⟨rfl, rfl, rfl⟩, trivial⟩ ?_
      have o1 := DF.doOp_ok h7 (.wr (j.pos + 512) body)
      have e1 := s.run2 (.wr (j.pos + 512) body)
      rw [show (FOp.wr (j.pos + 512) body).size = (body.length : Int) from rfl] at o1
      obtain ⟨x, hx⟩ : ∃ x, x = s.doOp (.wr (j.pos + 512) body) := ⟨_, rfl⟩
      rw [← hx] at o1 e1
      rw [← hx]
      have put : ∀ x : Int × DF, x = s.run [.wr (j.pos + 512) body, .fl] → x.1 ≠ 0 → k (.v (.int .i64 x.1)) [j.blk 1, x.2.pk] := fun x hx h =>
        hk (x.1, j, x.2) (.inr (.inr ⟨g2, by rw [← hbody]; exact hbr, x, by rw [← hbody]; exact hx, .inl ⟨h, rfl⟩⟩))
      repeat' (first
    | (with_reducible first | exact True.intro | apply And.intro | apply If_true | apply If_false | apply If_not)
    | ((with_reducible apply VC.mk); exact vt)
    | ((with_reducible apply If_dec) <;> intro hc <;> (try (exfalso; omega)))
    | ((with_reducible apply If_any) <;> intro hc)
    | ((with_reducible first | apply PF.mk | apply DrawP.mk); (focus kernel_rfl))
    | ((with_reducible apply Same.mk); (focus rfl); (first | exact trivial | exact rfl))
    | (intro cap hcap)
    | ((fail_if_success (with_reducible apply st)); conv => whnf))
      · rw [if_neg hc] at e1
        exact J2.fin rfl rfl rfl (put x e1.symm hc)
      rw [if_pos (Decidable.not_not.mp hc)] at e1
      refine doFl_at x.2 (n + 1 + body.length) 1 ⟨o1, by omega⟩ rfl ⟨rfl, trivial⟩ ?_
      have o2 := DF.doOp_ok o1 .fl
      rw [show FOp.fl.size = 0 from rfl] at o2
      obtain ⟨y2, hy2⟩ : ∃ y, y = x.2.doOp .fl := ⟨_, rfl⟩
      rw [← hy2] at e1 o2
      rw [← hy2]
      repeat' (first
    | (with_reducible first | exact True.intro | apply And.intro | apply If_true | apply If_false | apply If_not)
    | ((with_reducible apply VC.mk); exact vt)
    | ((with_reducible apply If_dec) <;> intro hc <;> (try (exfalso; omega)))
    | ((with_reducible apply If_any) <;> intro hc)
    | ((with_reducible first | apply PF.mk | apply DrawP.mk); (focus kernel_rfl))
    | ((with_reducible apply Same.mk); (focus rfl); (first | exact trivial | exact rfl))
    | (intro cap hcap)
    | ((fail_if_success (with_reducible apply st)); conv => whnf))
      · exact J2.fin rfl rfl rfl (put y2 e1.symm hc)
      have e2 : IntKind.u64.wrap (j.seq + 1) = j.next.seq := wrap_u64 _
      simp only [e2]
      obtain ⟨-, -, -, -, q5, q6⟩ := JR.next_ok hj
      refine sign_at j.next.seq rs.length body ⟨q5, q6, h9, by omega, hb8⟩ ⟨rfl, rfl, ⟨rfl, rfl, rfl⟩, trivial⟩ ?_
      intro sg hsg hsl
      repeat' (first
    | (with_reducible first | exact True.intro | apply And.intro | apply If_true | apply If_false | apply If_not)
    | ((with_reducible apply VC.mk); exact vt)
    | ((with_reducible apply If_dec) <;> intro hc <;> (try (exfalso; omega)))
    | ((with_reducible apply If_any) <;> intro hc)
    | ((with_reducible first | apply PF.mk | apply DrawP.mk); (focus kernel_rfl))
    | ((with_reducible apply Same.mk); (focus rfl); (first | exact trivial | exact rfl))
    | (intro cap hcap)
    | ((fail_if_success (with_reducible apply st)); conv => whnf))
      refine doWr_at y2.2 (n + 1 + body.length + 1 + 0) j.pos sg 1 ⟨o2, by omega⟩ (by omega) rfl ⟨rfl, rfl, ⟨rfl, rfl, rfl⟩, trivial⟩ ?_
      have o3 := DF.doOp_ok o2 (.wr j.pos sg)
      have e3 := y2.2.run2 (.wr j.pos sg)
      rw [show (FOp.wr j.pos sg).size = (sg.length : Int) from rfl] at o3
      obtain ⟨u, hu⟩ : ∃ u, u = y2.2.doOp (.wr j.pos sg) := ⟨_, rfl⟩
      rw [← hu] at o3 e3
      rw [← hu]
      have put2 : ∀ u : Int × DF, y2.2.run [.wr j.pos sg, .fl] = u → k (.v (.int .i64 u.1)) [j.next.blk 1, u.2.pk] := fun u hu =>
        hk (u.1, j.next, u.2) (.inr (.inr ⟨g2, by rw [← hbody]; exact hbr, y2, by rw [← hbody]; exact e1.symm, .inr ⟨Decidable.not_not.mp hc, sg, by rw [← hbody]; exact hsg, u, hu.symm, rfl⟩⟩))
      repeat' (first
    | (with_reducible first | exact True.intro | apply And.intro | apply If_true | apply If_false | apply If_not)
    | ((with_reducible apply VC.mk); exact vt)
    | ((with_reducible apply If_dec) <;> intro hc <;> (try (exfalso; omega)))
    | ((with_reducible apply If_any) <;> intro hc)
    | ((with_reducible first | apply PF.mk | apply DrawP.mk); (focus kernel_rfl))
    | ((with_reducible apply Same.mk); (focus rfl); (first | exact trivial | exact rfl))
    | (intro cap hcap)
    | ((fail_if_success (with_reducible apply st)); conv => whnf))
      · rw [if_neg hc] at e3
        exact J2.fin rfl rfl rfl (put2 u e3)
      rw [if_pos (Decidable.not_not.mp hc)] at e3
      refine doFl_at u.2 (n + 1 + body.length + 1 + 0 + 1 + sg.length) 1 ⟨o3, by omega⟩ rfl ⟨rfl, trivial⟩ ?_
      obtain ⟨u2, hu2⟩ : ∃ y, y = u.2.doOp .fl := ⟨_, rfl⟩
      rw [← hu2] at e3
      rw [← hu2]
      repeat' (first
    | (with_reducible first | exact True.intro | apply And.intro | apply If_true | apply If_false | apply If_not)
    | ((with_reducible apply VC.mk); exact vt)
    | ((with_reducible apply If_dec) <;> intro hc <;> (try (exfalso; omega)))
    | ((with_reducible apply If_any) <;> intro hc)
    | ((with_reducible first | apply PF.mk | apply DrawP.mk); (focus kernel_rfl))
    | ((with_reducible apply Same.mk); (focus rfl); (first | exact trivial | exact rfl))
    | (intro cap hcap)
    | ((fail_if_success (with_reducible apply st)); conv => whnf))
      exact J2.fin rfl rfl rfl (put2 u2 e3)
def commitOk (x : JR × DF × Int × List RecR) : Prop := x.1.Ok ∧ x.2.1.Ok x.2.2.1 ∧ x.2.2.1 ≤ 137438953472 ∧ x.2.2.2.length ≤ 1073741824 ∧ (encL x.2.2.2).length ≤ 1099511627776 ∧ ∀ r ∈ x.2.2.2, r.2.length ≤ 1073741824 ∧ B8 r.2
def commitRel (x : JR × DF × Int × List RecR) (r : Int × JR × DF) : Prop := comRel x.1 x.2.1 x.2.2.2 r
theorem commit_K : ConOk Go.Proofs.Try.prog 70 (Con.of (JR × DF × Int × List RecR) (Int × JR × DF) (fun x => [.p 0 0 1 0, .im false 2 x.2.2.2.length (recsC false x.2.2.2)]) (fun x => [x.1.blk 1, x.2.1.pk]) commitOk commitRel (fun x r => .v (.int .i64 r.1)) (fun x r => [JR.blk (r.2.1) 1, DF.pk (r.2.2)])) := by
  refine conOk_rel (T := tab) mix Go.Proofs.Try.func70 (by decide +kernel) (by kernel_rfl) [61] p70 (fun n => by rw [Go.Proofs.Try.ntmps70]; exact Nat.le_of_ble_eq_true rfl) (fun x r _ _ => J2.good (by simp [AV.noF, noFs, Cont.noF])) (fun x _ => J2.nd) ?_
  intro x k h0 hk
  exact commit_c x.1 x.2.1 x.2.2.1 x.2.2.2 k h0 (fun r hr => hk r hr)
theorem commit_at {avs : List AV} {H : List Chunk} {k : K} (j : JR) (s : DF) (n : Int) (rs : List RecR) (a b : Nat) (h0 : j.Ok ∧ s.Ok n ∧ n ≤ 137438953472 ∧ rs.length ≤ 1073741824 ∧ (encL rs).length ≤ 1099511627776 ∧ ∀ r ∈ rs, r.2.length ≤ 1073741824 ∧ B8 r.2) (hab : nodupN [a, b] = true) (ha0 : nth H a = some (j.blk b)) (hb0 : nth H b = some s.pk) (ha : argsM H [a, b] [.p 0 0 1 0, .im false 2 rs.length (recsC false rs)] avs)
    (h : ∀ r : Int × JR × DF, (comRel j s rs r) → k (.v (.int .i64 r.1)) ((H.set a (JR.blk (r.2.1) b)).set b (DF.pk (r.2.2)))) : CallP Go.Proofs.Try.prog 70 avs H k :=
  CallP.mk ⟨_, commit_K.real, Con.spec commit_K, (j, s, n, rs), [a, b], ⟨h0, hab, ⟨ha0, hb0, trivial⟩, ha⟩, fun r hr => (numK_eq _ _).mpr (by simpa [putAll, AV.ren, rens, Cont.ren, Chunk.ren, DF.pk, JR.blk, fren, nth] using h r hr)⟩
end Go.Proofs.Ytcfmlnddmpiemaa.Sx

