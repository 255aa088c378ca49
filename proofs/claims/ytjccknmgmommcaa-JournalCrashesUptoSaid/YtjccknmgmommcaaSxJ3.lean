import Derived.Test.YtjccknmgmommcaaSxJ2
set_option linter.unusedVariables false
set_option linter.unusedSimpArgs false
set_option maxRecDepth 10000
namespace Go.Proofs.Ytjccknmgmommcaa.Sx
open Go.RowKit Go.Proofs.Ytjccknmgmommcaa.Sx.Tb
/-! ### What is done to a file, one behind the other, up to the first error -/
inductive FOp where
  | wr (at_ : Int) (xs : List Int)
  | fl
def FOp.size : FOp → Int
  | .wr _ xs => xs.length
  | .fl => 0
def DF.refB (s : DF) : Bool := (decide (0 < s.fail) && decide (s.ops + 1 = s.fail)) || (decide (0 < s.stop) && decide (s.stop ≤ s.ops + 1))
theorem DF.refB_iff (s : DF) : s.refB = true ↔ s.refused := by unfold DF.refB DF.refused; simp
def DF.doOp (s : DF) : FOp → Int × DF
  | .wr at_ xs => if s.refB = true then (5, s.asked) else if at_ < 0 then (4, s.asked) else if 4194304 - at_ < xs.length then (3, s.asked) else (0, s.wrote1 at_ xs)
  | .fl => if s.refB = true then (5, s.asked) else (0, s.flushed)
theorem DF.doOp_wr (s : DF) (at_ : Int) (xs : List Int) : s.doOp (.wr at_ xs) = if s.refB = true then (5, s.asked) else if at_ < 0 then (4, s.asked) else if 4194304 - at_ < xs.length then (3, s.asked) else (0, s.wrote1 at_ xs) := rfl
theorem DF.doOp_fl (s : DF) : s.doOp .fl = if s.refB = true then (5, s.asked) else (0, s.flushed) := rfl
def DF.run (s : DF) : List FOp → Int × DF
  | [] => (0, s)
  | op :: r => if (s.doOp op).1 = 0 then (s.doOp op).2.run r else s.doOp op
def cost : List FOp → Int
  | [] => 0
  | op :: r => 1 + op.size + cost r
theorem FOp.size_nonneg (op : FOp) : 0 ≤ op.size := by cases op <;> simp [FOp.size]
theorem cost_nonneg : ∀ (l : List FOp), 0 ≤ cost l
  | [] => Int.le_refl _
  | op :: r => by have := op.size_nonneg; have := cost_nonneg r; rw [cost]; omega
theorem cost_append : ∀ (l m : List FOp), cost (l ++ m) = cost l + cost m
  | [], m => by simp [cost]
  | op :: r, m => by rw [List.cons_append, cost, cost, cost_append r m]; omega
theorem DF.doOp_ok {s : DF} {n : Int} (h : s.Ok n) (op : FOp) : (s.doOp op).2.Ok (n + 1 + op.size) := by
  have := op.size_nonneg
  have ha : s.asked.Ok (n + 1 + op.size) := h.ask.mono (by omega)
  cases op with
  | wr at_ xs =>
    rw [DF.doOp_wr]
    rw [show (FOp.wr at_ xs).size = (xs.length : Int) from rfl] at *
    split
    · exact ha
    · split
      · exact ha
      · split
        · exact ha
        · exact (h.write (by omega) (by omega)).1
  | fl =>
    rw [DF.doOp_fl]
    split
    · exact ha
    · exact h.flush.mono (by omega)
theorem DF.run_ok : ∀ (l : List FOp) {s : DF} {n : Int}, s.Ok n → (s.run l).2.Ok (n + cost l)
  | [], s, n, h => by simpa [DF.run, cost] using h
  | op :: r, s, n, h => by
    have h1 := DF.doOp_ok h op
    have := cost_nonneg r
    rw [DF.run, cost]
    split
    · exact (DF.run_ok r h1).mono (by omega)
    · exact h1.mono (by omega)
theorem DF.run_append : ∀ (l m : List FOp) (s : DF), s.run (l ++ m) = if (s.run l).1 = 0 then (s.run l).2.run m else s.run l
  | [], m, s => by simp [DF.run]
  | op :: r, m, s => by
    rw [List.cons_append, DF.run, DF.run]
    by_cases h : (s.doOp op).1 = 0
    · rw [if_pos h, if_pos h]; exact DF.run_append r m _
    · rw [if_neg h, if_neg h, if_neg h]
theorem doWr_at {avs : List AV} {H : List Chunk} {k : K} (s : DF) (n : Int) (at_ : Int) (xs : List Int) (i : Nat) (h0 : s.Ok n ∧ n ≤ 549755813888) (hx : xs.length ≤ 1099511627776) (hc : nth H i = some s.pk) (ha : argsM H [i] [.p 0 0 1 0, .v (.int .i64 at_), .im false 1 xs.length (.ints .u8 xs)] avs)
    (h : k (.v (.int .i64 (s.doOp (.wr at_ xs)).1)) (H.set i (DF.pk (s.doOp (.wr at_ xs)).2))) : CallP Go.Proofs.Try.prog 19 avs H k := by
  have a1 := h0.1.ops
  have a2 := h0.1.wrote
  have a3 := h0.1.len
  have a4 := h0.1.now
  have a5 := h0.2
  refine write_at s at_ xs i ⟨a1.1, by omega, a2.1, by omega, hx, by omega, a4⟩ hc ha ?_
  intro r s' hr
  have e : s.doOp (.wr at_ xs) = (r, s') := by
    rw [DF.doOp_wr]
    rcases hr with ⟨rfl, x, rfl⟩ | ⟨rfl, x, y, rfl⟩ | ⟨rfl, x, y, z, rfl⟩ | ⟨rfl, x, y, z, rfl⟩
    · rw [if_pos ((DF.refB_iff s).2 x)]
    · rw [if_neg (fun h => x ((DF.refB_iff s).1 h)), if_pos y]
    · rw [if_neg (fun h => x ((DF.refB_iff s).1 h)), if_neg (by omega), if_pos (by omega)]
    · rw [if_neg (fun h => x ((DF.refB_iff s).1 h)), if_neg (by omega), if_neg (by omega)]
  rw [e] at h
  exact h
theorem doFl_at {avs : List AV} {H : List Chunk} {k : K} (s : DF) (n : Int) (i : Nat) (h0 : s.Ok n ∧ n ≤ 549755813888) (hc : nth H i = some s.pk) (ha : argsM H [i] [.p 0 0 1 0] avs)
    (h : k (.v (.int .i64 (s.doOp .fl).1)) (H.set i (DF.pk (s.doOp .fl).2))) : CallP Go.Proofs.Try.prog 22 avs H k := by
  have a1 := h0.1.ops
  have a4 := h0.1.now
  have a5 := h0.2
  refine flush_at s i ⟨a1.1, by omega, by omega⟩ hc ha ?_
  intro r s' hr
  have e : s.doOp .fl = (r, s') := by
    rw [DF.doOp_fl]
    rcases hr with ⟨rfl, x, rfl⟩ | ⟨rfl, x, rfl⟩
    · rw [if_pos ((DF.refB_iff s).2 x)]
    · rw [if_neg (fun h => x ((DF.refB_iff s).1 h))]
  rw [e] at h
  exact h
/-! ### The journal -/
structure JR where
  pos : Int
  size : Int
  seq : Int
def JR.blk (j : JR) (i : Nat) : Chunk := .blk 176 (.lst [.p i 0 1 0, .v (.int .i64 j.pos), .v (.int .i64 j.size), .v (.int .u64 j.seq)]) 4
def JR.Ok (j : JR) : Prop := 0 ≤ j.pos ∧ j.pos ≤ 4194304 ∧ 1024 ≤ j.size ∧ j.size ≤ 4194304 ∧ 0 ≤ j.seq ∧ j.seq < 18446744073709551616
theorem JR.noF (j : JR) (i : Nat) : ChunkNoF (j.blk i) := .blk ⟨trivial, trivial, trivial, trivial, trivial⟩
def JR.out (j : JR) (at_ n : Int) : Prop := 0 ≤ at_ ∧ 0 ≤ n ∧ at_ ≤ 4194304 ∧ n ≤ 4194304 - at_ ∧ (at_ + n ≤ j.pos ∨ j.pos + j.size ≤ at_)
theorem two_le {H : List Chunk} {f : Nat → Nat} {ph : Nat → Bool} {j : JR} {s : DF} (hf : f 1 = 1) (h : 2 ≤ H.length) (h0 : nth H 0 = some (j.blk 1)) (h1 : nth H 1 = some s.pk) : chunksLe H [] f ph [0, 1] [j.blk 1, s.pk] := by
  refine ⟨?_, ?_, trivial⟩
  · unfold Chunk.le JR.blk
    simp only
    rw [show Nat.blt 0 H.length = true by rw [Nat.blt_eq]; omega, h0]
    exact ⟨VC.mk ⟨rfl, rfl⟩, VC.mk ⟨hf, rfl, rfl, rfl⟩, VC.mk rfl, VC.mk rfl, VC.mk rfl, trivial⟩
  · unfold Chunk.le DF.pk
    simp only
    rw [show Nat.blt 1 H.length = true by rw [Nat.blt_eq]; omega, h1]
    exact VC.mk ⟨rfl, rfl, rfl, rfl⟩
theorem J2.good {j : JR} {s : DF} {v : AV} (h : v.noF) : Good 2 v [j.blk 1, s.pk] := ⟨h, fun c hc => by simp at hc; rcases hc with rfl | rfl; exact j.noF _; exact s.pk_noF, Nat.le_refl _⟩
theorem J2.nd {j : JR} {s : DF} : ∀ c ∈ [j.blk 1, s.pk], c.lives := by intro c hc; simp at hc; rcases hc with rfl | rfl <;> trivial
theorem fix2 {N : Nat} {σ : List Nat} : ∀ i, i < 2 → fren (0 :: 1 :: σ) N i = i := fun i hi => by
  match i, hi with
  | 0, _ => rfl
  | 1, _ => rfl
theorem J2.fin {H : List Chunk} {j : JR} {s : DF} {v : AV} {k : K} (h : Nat.ble 2 H.length = true) (h0 : nth H 0 = some (j.blk 1)) (h1 : nth H 1 = some s.pk) (hk : k v [j.blk 1, s.pk]) (hv : v.inN 2 := by simp [AV.inN, inNs, Cont.inN]) : Fin 2 v H k :=
  Fin.ren [0, 1] [] v [j.blk 1, s.pk] rfl rfl trivial (two_le rfl (Nat.le_of_ble_eq_true h) h0 h1) (AV.le_refl fix2 hv) hk
theorem lend_ints {H : List Chunk} {σ : List Nat} {a n c N : Nat} {t : TypeId} {xs : List Int} {kd : IntKind} (h : nth H a = some (.blk t (.ints kd xs) N)) (hn : xs.length = n) (hm : memN a σ = false) : lendTo H σ (.s a 0 1 n c) 1 n (.ints kd xs) := by
  subst hn
  show match nth H a with
    | some (.blk _ c0 _) => match c0.ext 1 0 xs.length with
      | some (ψ, d) => ψ ∧ (1:Nat) = 1 ∧ xs.length = xs.length ∧ d.low.same (.ints kd xs) ∧ memN a σ = false ∧ 0 < 1
      | none => False
    | _ => False
  rw [h]
  exact ⟨by omega, rfl, rfl, (by show Cont.ints kd ((xs.drop 0).take xs.length) = Cont.ints kd xs; simp), hm, Nat.one_pos⟩
theorem arg_ints {H : List Chunk} {σ : List Nat} {a n c N : Nat} {t : TypeId} {xs : List Int} {kd : IntKind} (h : nth H a = some (.blk t (.ints kd xs) N)) (hn : xs.length = n) (hm : memN a σ = false) : argM H σ (.im false 1 n (.ints kd xs)) (.s a 0 1 n c) := lend_ints (c := c) h hn hm
set_option maxHeartbeats 8000000 in
theorem outside_c (j : JR) (s : DF) (at_ n : Int) (k : K) (h0 : j.Ok) (hk : ∀ b : Bool, (b = true ↔ j.out at_ n) → k (.v (.bool b)) [j.blk 1, s.pk]) : evFunc tab [] p113 Go.Proofs.Try.f113 [.p 0 0 1 0, .v (.int .i64 at_), .v (.int .i64 n)] [j.blk 1, s.pk] k := by
  obtain ⟨h1, h2, h3, h4, h5, h6⟩ := h0
  repeat' (first
 | (with_reducible first | exact True.intro | apply And.intro | apply If_true | apply If_false | apply If_not)
 | ((with_reducible apply VC.mk); (first | trivial | omega | (simp only [inR]; omega) | (exact ⟨rfl, List.prefix_rfl⟩) | (refine ⟨rfl, rfl, rfl, ?_, rfl⟩; (simp; done)) | (focus (repeat' (first | exact True.intro | apply And.intro | rfl | exact Nat.le_of_ble_eq_true rfl)); done) | (simp [inR, Cont.cells]; done) | (simp [inR, Cont.cells]; omega)))
 | ((with_reducible apply If_dec) <;> intro hc <;> (try (exfalso; omega)))
 | ((with_reducible apply If_any) <;> intro hc)
 | ((with_reducible first | apply PF.mk | apply DrawP.mk); (focus kernel_rfl))
 | ((with_reducible apply Same.mk); (focus rfl); (first | exact trivial | exact rfl))
 | (intro cap hcap)
 | ((fail_if_success (with_reducible first | apply Fin.mk | apply CallP.mk | apply LoopP.mk | apply VC.mk | apply falseMk | apply Round.mk | apply Eq.symm)); conv => whnf))
  all_goals (refine Fin.same (hk _ ?_); unfold JR.out; simp; omega)
set_option maxHeartbeats 8000000 in
theorem room_c (j : JR) (s : DF) (k : K) (h0 : j.Ok) (hk : k (.v (.int .i64 (j.size - 512))) [j.blk 1, s.pk]) : evFunc tab [] [] Go.Proofs.Try.f66 [.p 0 0 1 0] [j.blk 1, s.pk] k := by
  obtain ⟨h1, h2, h3, h4, h5, h6⟩ := h0
  repeat' (first
 | (with_reducible first | exact True.intro | apply And.intro | apply If_true | apply If_false | apply If_not)
 | ((with_reducible apply VC.mk); (first | trivial | omega | (simp only [inR]; omega) | (exact ⟨rfl, List.prefix_rfl⟩) | (refine ⟨rfl, rfl, rfl, ?_, rfl⟩; (simp; done)) | (focus (repeat' (first | exact True.intro | apply And.intro | rfl | exact Nat.le_of_ble_eq_true rfl)); done) | (simp [inR, Cont.cells]; done) | (simp [inR, Cont.cells]; omega)))
 | ((with_reducible apply If_dec) <;> intro hc <;> (try (exfalso; omega)))
 | ((with_reducible apply If_any) <;> intro hc)
 | ((with_reducible first | apply PF.mk | apply DrawP.mk); (focus kernel_rfl))
 | ((with_reducible apply Same.mk); (focus rfl); (first | exact trivial | exact rfl))
 | (intro cap hcap)
 | ((fail_if_success (with_reducible first | apply Fin.mk | apply CallP.mk | apply LoopP.mk | apply VC.mk | apply falseMk | apply Round.mk | apply Eq.symm)); conv => whnf))
  exact Fin.same hk
def outsideOk (x : JR × DF × Int × Int) : Prop := x.1.Ok
def outsideRel (x : JR × DF × Int × Int) (r : Bool) : Prop := (r = true ↔ x.1.out x.2.2.1 x.2.2.2)
theorem outside_K : ConOk Go.Proofs.Try.prog 113 (Con.of (JR × DF × Int × Int) (Bool) (fun x => [.p 0 0 1 0, .v (.int .i64 x.2.2.1), .v (.int .i64 x.2.2.2)]) (fun x => [x.1.blk 1, x.2.1.pk]) outsideOk outsideRel (fun x r => .v (.bool r)) (fun x r => [JR.blk (x.1) 1, DF.pk (x.2.1)])) := by
  refine conOk_rel (T := tab) mix Go.Proofs.Try.func113 (by decide +kernel) (by kernel_rfl) [] p113 (fun n => by rw [Go.Proofs.Try.ntmps113]; exact Nat.le_of_ble_eq_true rfl) (fun x r _ _ => J2.good (by simp [AV.noF, noFs, Cont.noF])) (fun x _ => J2.nd) ?_
  intro x k h0 hk
  exact outside_c x.1 x.2.1 x.2.2.1 x.2.2.2 k h0 (fun r hr => hk r hr)
theorem outside_at {avs : List AV} {H : List Chunk} {k : K} (j : JR) (s : DF) (at_ : Int) (n : Int) (a b : Nat) (h0 : j.Ok) (hab : nodupN [a, b] = true) (ha0 : nth H a = some (j.blk b)) (hb0 : nth H b = some s.pk) (ha : argsM H [a, b] [.p 0 0 1 0, .v (.int .i64 at_), .v (.int .i64 n)] avs)
    (h : ∀ r : Bool, ((r = true ↔ j.out at_ n)) → k (.v (.bool r)) ((H.set a (JR.blk (j) b)).set b (DF.pk (s)))) : CallP Go.Proofs.Try.prog 113 avs H k :=
  CallP.mk ⟨_, outside_K.real, Con.spec outside_K, (j, s, at_, n), [a, b], ⟨h0, hab, ⟨ha0, hb0, trivial⟩, ha⟩, fun r hr => (numK_eq _ _).mpr (by simpa [putAll, AV.ren, rens, Cont.ren, Chunk.ren, DF.pk, JR.blk, fren, nth] using h r hr)⟩
def roomOk (x : JR × DF) : Prop := x.1.Ok
def roomRel (x : JR × DF) (r : Unit) : Prop := True
theorem room_K : ConOk Go.Proofs.Try.prog 66 (Con.of (JR × DF) (Unit) (fun x => [.p 0 0 1 0]) (fun x => [x.1.blk 1, x.2.pk]) roomOk roomRel (fun x r => .v (.int .i64 (x.1.size - 512))) (fun x r => [JR.blk (x.1) 1, DF.pk (x.2)])) := by
  refine conOk_rel (T := tab) mix Go.Proofs.Try.func66 (by decide +kernel) (by kernel_rfl) [] [] (fun n => by rw [Go.Proofs.Try.ntmps66]; exact Nat.le_of_ble_eq_true rfl) (fun x r _ _ => J2.good (by simp [AV.noF, noFs, Cont.noF])) (fun x _ => J2.nd) ?_
  intro x k h0 hk
  exact room_c x.1 x.2 k h0 (hk () trivial)
theorem room_at {avs : List AV} {H : List Chunk} {k : K} (j : JR) (s : DF) (a b : Nat) (h0 : j.Ok) (hab : nodupN [a, b] = true) (ha0 : nth H a = some (j.blk b)) (hb0 : nth H b = some s.pk) (ha : argsM H [a, b] [.p 0 0 1 0] avs)
    (h : ∀ r : Unit, (True) → k (.v (.int .i64 (j.size - 512))) ((H.set a (JR.blk (j) b)).set b (DF.pk (s)))) : CallP Go.Proofs.Try.prog 66 avs H k :=
  CallP.mk ⟨_, room_K.real, Con.spec room_K, (j, s), [a, b], ⟨h0, hab, ⟨ha0, hb0, trivial⟩, ha⟩, fun r hr => (numK_eq _ _).mpr (by simpa [putAll, AV.ren, rens, Cont.ren, Chunk.ren, DF.pk, JR.blk, fren, nth] using h r hr)⟩
theorem DF.run2 (s : DF) (a : FOp) : s.run [a, .fl] = if (s.doOp a).1 = 0 then (s.doOp a).2.doOp .fl else s.doOp a := by
  rw [DF.run, DF.run, DF.run]; split
  · split
    · rename_i hh; exact Prod.ext hh.symm rfl
    · rfl
  · rfl
set_option maxHeartbeats 8000000 in
theorem clear_c (j : JR) (s : DF) (n : Int) (z : List Int) (k : K) (h0 : j.Ok ∧ s.Ok n ∧ n ≤ 274877906944 ∧ z = List.replicate 512 0) (hk : ∀ x : Int × DF, x = s.run [.wr j.pos z, .fl] → k (.v (.int .i64 x.1)) [j.blk 1, x.2.pk]) : evFunc tab [] p70 Go.Proofs.Try.f70 [.p 0 0 1 0] [j.blk 1, s.pk] k := by
  obtain ⟨⟨h1, h2, h3, h4, h5, h6⟩, h7, h8, hz⟩ := h0
  have hl : z.length = 512 := by rw [hz]; exact List.length_replicate ..
  repeat' (first
 | (with_reducible first | exact True.intro | apply And.intro | apply If_true | apply If_false | apply If_not)
 | ((with_reducible apply VC.mk); (first | trivial | omega | (simp only [inR]; omega) | (exact ⟨rfl, List.prefix_rfl⟩) | (refine ⟨rfl, rfl, rfl, ?_, rfl⟩; (simp; done)) | (focus (repeat' (first | exact True.intro | apply And.intro | rfl | exact Nat.le_of_ble_eq_true rfl)); done) | (simp [inR, Cont.cells]; done) | (simp [inR, Cont.cells]; omega)))
 | ((with_reducible apply If_dec) <;> intro hc <;> (try (exfalso; omega)))
 | ((with_reducible apply If_any) <;> intro hc)
 | ((with_reducible first | apply PF.mk | apply DrawP.mk); (focus kernel_rfl))
 | ((with_reducible apply Same.mk); (focus rfl); (first | exact trivial | exact rfl))
 | (intro cap hcap)
 | ((fail_if_success (with_reducible first | apply Fin.mk | apply CallP.mk | apply LoopP.mk | apply VC.mk | apply falseMk | apply Round.mk | apply Eq.symm)); conv => whnf))
  rw [show List.replicate (Int.toNat 512) (0:Int) = z from hz.symm]
  obtain ⟨C, hC⟩ : ∃ C : Nat, C = Int.toNat 512 := ⟨_, rfl⟩
  rw [← hC]
  have hC2 : C = z.length := by rw [hl, hC]; rfl
  have hC3 : C * 1 = C := by omega
  simp only [hC3]
  rw [hC2]
  refine doWr_at s n j.pos z 1 ⟨h7, by omega⟩ (by omega) rfl ⟨rfl, rfl, arg_ints rfl rfl rfl, trivial⟩ ?_
  have o1 := DF.doOp_ok h7 (.wr j.pos z)
  have e1 := s.run2 (.wr j.pos z)
  rw [show (FOp.wr j.pos z).size = (z.length : Int) from rfl] at o1
  obtain ⟨x, hx⟩ : ∃ x, x = s.doOp (.wr j.pos z) := ⟨_, rfl⟩
  rw [← hx] at o1 e1
  rw [← hx]
  repeat' (first
 | (with_reducible first | exact True.intro | apply And.intro | apply If_true | apply If_false | apply If_not)
 | ((with_reducible apply VC.mk); (first | trivial | omega | (simp only [inR]; omega) | (exact ⟨rfl, List.prefix_rfl⟩) | (refine ⟨rfl, rfl, rfl, ?_, rfl⟩; (simp; done)) | (focus (repeat' (first | exact True.intro | apply And.intro | rfl | exact Nat.le_of_ble_eq_true rfl)); done) | (simp [inR, Cont.cells]; done) | (simp [inR, Cont.cells]; omega)))
 | ((with_reducible apply If_dec) <;> intro hc <;> (try (exfalso; omega)))
 | ((with_reducible apply If_any) <;> intro hc)
 | ((with_reducible first | apply PF.mk | apply DrawP.mk); (focus kernel_rfl))
 | ((with_reducible apply Same.mk); (focus rfl); (first | exact trivial | exact rfl))
 | (intro cap hcap)
 | ((fail_if_success (with_reducible first | apply Fin.mk | apply CallP.mk | apply LoopP.mk | apply VC.mk | apply falseMk | apply Round.mk | apply Eq.symm)); conv => whnf))
  · rw [if_neg hc] at e1
    exact J2.fin rfl rfl rfl (hk x e1.symm)
  · rw [if_pos (Decidable.not_not.mp hc)] at e1
    refine doFl_at x.2 (n + 1 + z.length) 1 ⟨o1, by omega⟩ rfl ⟨rfl, trivial⟩ ?_
    obtain ⟨y, hy⟩ : ∃ y, y = x.2.doOp .fl := ⟨_, rfl⟩
    rw [← hy] at e1
    rw [← hy]
    repeat' (first
 | (with_reducible first | exact True.intro | apply And.intro | apply If_true | apply If_false | apply If_not)
 | ((with_reducible apply VC.mk); (first | trivial | omega | (simp only [inR]; omega) | (exact ⟨rfl, List.prefix_rfl⟩) | (refine ⟨rfl, rfl, rfl, ?_, rfl⟩; (simp; done)) | (focus (repeat' (first | exact True.intro | apply And.intro | rfl | exact Nat.le_of_ble_eq_true rfl)); done) | (simp [inR, Cont.cells]; done) | (simp [inR, Cont.cells]; omega)))
 | ((with_reducible apply If_dec) <;> intro hc <;> (try (exfalso; omega)))
 | ((with_reducible apply If_any) <;> intro hc)
 | ((with_reducible first | apply PF.mk | apply DrawP.mk); (focus kernel_rfl))
 | ((with_reducible apply Same.mk); (focus rfl); (first | exact trivial | exact rfl))
 | (intro cap hcap)
 | ((fail_if_success (with_reducible first | apply Fin.mk | apply CallP.mk | apply LoopP.mk | apply VC.mk | apply falseMk | apply Round.mk | apply Eq.symm)); conv => whnf))
    exact J2.fin rfl rfl rfl (hk y e1.symm)
def clearOk (x : JR × DF × Int × List Int) : Prop := x.1.Ok ∧ x.2.1.Ok x.2.2.1 ∧ x.2.2.1 ≤ 274877906944 ∧ x.2.2.2 = List.replicate 512 0
def clearRel (x : JR × DF × Int × List Int) (r : Int × DF) : Prop := r = x.2.1.run [.wr x.1.pos x.2.2.2, .fl]
theorem clear_K : ConOk Go.Proofs.Try.prog 70 (Con.of (JR × DF × Int × List Int) (Int × DF) (fun x => [.p 0 0 1 0]) (fun x => [x.1.blk 1, x.2.1.pk]) clearOk clearRel (fun x r => .v (.int .i64 r.1)) (fun x r => [JR.blk (x.1) 1, DF.pk (r.2)])) := by
  refine conOk_rel (T := tab) mix Go.Proofs.Try.func70 (by decide +kernel) (by kernel_rfl) [] p70 (fun n => by rw [Go.Proofs.Try.ntmps70]; exact Nat.le_of_ble_eq_true rfl) (fun x r _ _ => J2.good (by simp [AV.noF, noFs, Cont.noF])) (fun x _ => J2.nd) ?_
  intro x k h0 hk
  exact clear_c x.1 x.2.1 x.2.2.1 x.2.2.2 k h0 (fun r hr => hk r hr)
theorem clear_at {avs : List AV} {H : List Chunk} {k : K} (j : JR) (s : DF) (n : Int) (z : List Int) (a b : Nat) (h0 : j.Ok ∧ s.Ok n ∧ n ≤ 274877906944 ∧ z = List.replicate 512 0) (hab : nodupN [a, b] = true) (ha0 : nth H a = some (j.blk b)) (hb0 : nth H b = some s.pk) (ha : argsM H [a, b] [.p 0 0 1 0] avs)
    (h : ∀ r : Int × DF, (r = s.run [.wr j.pos z, .fl]) → k (.v (.int .i64 r.1)) ((H.set a (JR.blk (j) b)).set b (DF.pk (r.2)))) : CallP Go.Proofs.Try.prog 70 avs H k :=
  CallP.mk ⟨_, clear_K.real, Con.spec clear_K, (j, s, n, z), [a, b], ⟨h0, hab, ⟨ha0, hb0, trivial⟩, ha⟩, fun r hr => (numK_eq _ _).mpr (by simpa [putAll, AV.ren, rens, Cont.ren, Chunk.ren, DF.pk, JR.blk, fren, nth] using h r hr)⟩
def wrs (rs : List RecR) : List FOp := rs.map (fun r => .wr r.1 r.2)
theorem DF.run1 (s : DF) (a : FOp) : s.run [a] = s.doOp a := by
  rw [DF.run, DF.run]; split
  · rename_i hh; exact Prod.ext hh.symm rfl
  · rfl
theorem DF.run_bad {s : DF} {l : List FOp} (h : (s.run l).1 ≠ 0) (m : List FOp) : s.run (l ++ m) = s.run l := by rw [DF.run_append, if_neg h]
theorem DF.run_good {s s' : DF} {l : List FOp} (h : s.run l = (0, s')) (m : List FOp) : s.run (l ++ m) = s'.run m := by rw [DF.run_append, h]; rfl
theorem wrs_snoc (rs : List RecR) (i : Nat) (h : i < rs.length) : wrs (rs.take (i + 1)) = wrs (rs.take i) ++ [.wr (rs.getD i (0, [])).1 (rs.getD i (0, [])).2] := by
  unfold wrs
  rw [List.take_add_one, List.map_append]
  congr 1
  simp [List.getD_eq_getElem?_getD, h]
theorem wrs_cut (rs : List RecR) (i : Nat) : wrs rs = wrs (rs.take i) ++ wrs (rs.drop i) := by
  unfold wrs; rw [← List.map_append, List.take_append_drop]
theorem cost_take (rs : List RecR) (i : Nat) : cost (wrs (rs.take i)) ≤ cost (wrs rs) := by
  have := cost_nonneg (wrs (rs.drop i))
  rw [wrs_cut rs i, cost_append]; omega
set_option maxHeartbeats 8000000 in
theorem apply_c (j : JR) (s : DF) (n : Int) (z : List Int) (rs : List RecR) (k : K) (h0 : j.Ok ∧ s.Ok n ∧ n ≤ 137438953472 ∧ rs.length ≤ 1073741824 ∧ (∀ r ∈ rs, r.2.length ≤ 1073741824) ∧ cost (wrs rs) ≤ 68719476736 ∧ z = List.replicate 512 0) (hk : ∀ x : Int × DF, x = s.run (wrs rs ++ [.fl, .wr j.pos z, .fl]) → k (.v (.int .i64 x.1)) [j.blk 1, x.2.pk]) : evFunc tab [] p69 Go.Proofs.Try.f69 [.p 0 0 1 0, .im false 2 rs.length (recsC false rs)] [j.blk 1, s.pk] k := by
  obtain ⟨hj, h7, h8, h9, h10, h11, hz⟩ := h0
  have hc0 := cost_nonneg (wrs rs)
  repeat' (first
 | (with_reducible first | exact True.intro | apply And.intro | apply If_true | apply If_false | apply If_not)
 | ((with_reducible apply VC.mk); (first | trivial | omega | (simp only [inR]; omega) | (exact ⟨rfl, List.prefix_rfl⟩) | (refine ⟨rfl, rfl, rfl, ?_, rfl⟩; (simp; done)) | (focus (repeat' (first | exact True.intro | apply And.intro | rfl | exact Nat.le_of_ble_eq_true rfl)); done) | (simp [inR, Cont.cells]; done) | (simp [inR, Cont.cells]; omega)))
 | ((with_reducible apply If_dec) <;> intro hc <;> (try (exfalso; omega)))
 | ((with_reducible apply If_any) <;> intro hc)
 | ((with_reducible first | apply PF.mk | apply DrawP.mk); (focus kernel_rfl))
 | ((with_reducible apply Same.mk); (focus rfl); (first | exact trivial | exact rfl))
 | (intro cap hcap)
 | ((fail_if_success (with_reducible first | apply Fin.mk | apply CallP.mk | apply LoopP.mk | apply VC.mk | apply falseMk | apply Round.mk | apply Eq.symm)); conv => whnf))
  refine LoopP.mk ⟨Nat × DF, fun y => y.1 ≤ rs.length ∧ s.run (wrs (rs.take y.1)) = (0, y.2), fun y => ([(0, .p 0 0 1 0), (11, .im false 2 rs.length (recsC false rs)), (12, .v (.int .i64 rs.length)), (13, .v (.int .i64 y.1))], [j.blk 1, y.2.pk]), fun y => rs.length - y.1, (0, s), ⟨Nat.zero_le _, rfl⟩, Fit.ren [0, 1] [] rfl rfl trivial (two_le rfl (Nat.le_of_ble_eq_true rfl) rfl rfl) ?_, ?_⟩
  · repeat' (first
 | (with_reducible first | exact True.intro | apply And.intro | apply If_true | apply If_false | apply If_not)
 | ((with_reducible apply VC.mk); (first | trivial | omega | (simp only [inR]; omega) | (exact ⟨rfl, List.prefix_rfl⟩) | (refine ⟨rfl, rfl, rfl, ?_, rfl⟩; (simp; done)) | (focus (repeat' (first | exact True.intro | apply And.intro | rfl | exact Nat.le_of_ble_eq_true rfl)); done) | (simp [inR, Cont.cells]; done) | (simp [inR, Cont.cells]; omega)))
 | ((with_reducible apply If_dec) <;> intro hc <;> (try (exfalso; omega)))
 | ((with_reducible apply If_any) <;> intro hc)
 | ((with_reducible first | apply PF.mk | apply DrawP.mk); (focus kernel_rfl))
 | ((with_reducible apply Same.mk); (focus rfl); (first | exact trivial | exact rfl))
 | (intro cap hcap)
 | ((fail_if_success (with_reducible first | apply Fin.mk | apply CallP.mk | apply LoopP.mk | apply VC.mk | apply falseMk | apply Round.mk | apply Eq.symm)); conv => whnf))
  · intro y hy
    obtain ⟨g1, g2⟩ := hy
    have e : ((y.1 : Nat) : Int).toNat = y.1 := Int.toNat_natCast _
    have o := DF.run_ok (wrs (rs.take y.1)) h7
    rw [g2] at o
    have o1 := cost_take rs y.1
    have o2 : y.2.Ok (n + cost (wrs (rs.take y.1))) := o
    by_cases hlt : y.1 < rs.length
    · have hm : rs.getD y.1 (0, []) ∈ rs := by
        rw [show rs.getD y.1 (0, []) = rs[y.1] by simp [List.getD_eq_getElem?_getD, hlt]]; exact List.getElem_mem hlt
      have hok := h10 _ hm
      have hsn := wrs_snoc rs y.1 hlt
      repeat' (first
 | (with_reducible first | exact True.intro | apply And.intro | apply If_true | apply If_false | apply If_not)
 | ((with_reducible apply VC.mk); (first | trivial | omega | (simp only [inR]; omega) | (exact ⟨rfl, List.prefix_rfl⟩) | (refine ⟨rfl, rfl, rfl, ?_, rfl⟩; (simp; done)) | (focus (repeat' (first | exact True.intro | apply And.intro | rfl | exact Nat.le_of_ble_eq_true rfl)); done) | (simp [inR, Cont.cells]; done) | (simp [inR, Cont.cells]; omega)))
 | ((with_reducible apply If_dec) <;> intro hc <;> (try (exfalso; omega)))
 | ((with_reducible apply If_any) <;> intro hc)
 | ((with_reducible first | apply PF.mk | apply DrawP.mk); (focus kernel_rfl))
 | ((with_reducible apply Same.mk); (focus rfl); (first | exact trivial | exact rfl))
 | (intro cap hcap)
 | ((fail_if_success (with_reducible first | apply Fin.mk | apply CallP.mk | apply LoopP.mk | apply VC.mk | apply falseMk | apply Round.mk | apply Eq.symm)); conv => whnf))
      simp only [e] at *
      generalize rs.getD y.1 (0, []) = r at *
      refine doWr_at y.2 (n + cost (wrs (rs.take y.1))) r.1 r.2 1 ⟨o2, by omega⟩ (by omega) rfl ⟨rfl, rfl, ⟨rfl, rfl, rfl⟩, trivial⟩ ?_
      have e1 : s.run (wrs (rs.take (y.1 + 1))) = y.2.doOp (.wr r.1 r.2) := by rw [hsn, DF.run_good g2, DF.run1]
      obtain ⟨x, hx⟩ : ∃ x, x = y.2.doOp (.wr r.1 r.2) := ⟨_, rfl⟩
      rw [← hx] at e1
      rw [← hx]
      repeat' (first
 | (with_reducible first | exact True.intro | apply And.intro | apply If_true | apply If_false | apply If_not)
 | ((with_reducible apply VC.mk); (first | trivial | omega | (simp only [inR]; omega) | (exact ⟨rfl, List.prefix_rfl⟩) | (refine ⟨rfl, rfl, rfl, ?_, rfl⟩; (simp; done)) | (focus (repeat' (first | exact True.intro | apply And.intro | rfl | exact Nat.le_of_ble_eq_true rfl)); done) | (simp [inR, Cont.cells]; done) | (simp [inR, Cont.cells]; omega)))
 | ((with_reducible apply If_dec) <;> intro hc <;> (try (exfalso; omega)))
 | ((with_reducible apply If_any) <;> intro hc)
 | ((with_reducible first | apply PF.mk | apply DrawP.mk); (focus kernel_rfl))
 | ((with_reducible apply Same.mk); (focus rfl); (first | exact trivial | exact rfl))
 | (intro cap hcap)
 | ((fail_if_success (with_reducible first | apply Fin.mk | apply CallP.mk | apply LoopP.mk | apply VC.mk | apply falseMk | apply Round.mk | apply Eq.symm)); conv => whnf))
      · have e2 : s.run (wrs rs ++ [.fl, .wr j.pos z, .fl]) = x := by
          rw [wrs_cut rs (y.1 + 1), List.append_assoc, DF.run_bad (by rw [e1]; exact hc), e1]
        exact J2.fin rfl rfl rfl (hk x e2.symm)
      · refine Round.mk ⟨(y.1 + 1, x.2), ⟨by show y.1 + 1 ≤ _; omega, by rw [e1]; exact Prod.ext (Decidable.not_not.mp hc) rfl⟩, by show rs.length - (y.1 + 1) < rs.length - y.1; omega, Fit.ren [0, 1] [] rfl rfl trivial (two_le rfl (Nat.le_of_ble_eq_true rfl) rfl rfl) ?_⟩
        repeat' (first
 | (with_reducible first | exact True.intro | apply And.intro | apply If_true | apply If_false | apply If_not)
 | ((with_reducible apply VC.mk); (first | trivial | omega | (simp only [inR]; omega) | (exact ⟨rfl, List.prefix_rfl⟩) | (refine ⟨rfl, rfl, rfl, ?_, rfl⟩; (simp; done)) | (focus (repeat' (first | exact True.intro | apply And.intro | rfl | exact Nat.le_of_ble_eq_true rfl)); done) | (simp [inR, Cont.cells]; done) | (simp [inR, Cont.cells]; omega)))
 | ((with_reducible apply If_dec) <;> intro hc <;> (try (exfalso; omega)))
 | ((with_reducible apply If_any) <;> intro hc)
 | ((with_reducible first | apply PF.mk | apply DrawP.mk); (focus kernel_rfl))
 | ((with_reducible apply Same.mk); (focus rfl); (first | exact trivial | exact rfl))
 | (intro cap hcap)
 | ((fail_if_success (with_reducible first | apply Fin.mk | apply CallP.mk | apply LoopP.mk | apply VC.mk | apply falseMk | apply Round.mk | apply Eq.symm)); conv => whnf))
    · have e5 : rs.take y.1 = rs := List.take_of_length_le (by omega)
      rw [e5] at g2 o2
      repeat' (first
 | (with_reducible first | exact True.intro | apply And.intro | apply If_true | apply If_false | apply If_not)
 | ((with_reducible apply VC.mk); (first | trivial | omega | (simp only [inR]; omega) | (exact ⟨rfl, List.prefix_rfl⟩) | (refine ⟨rfl, rfl, rfl, ?_, rfl⟩; (simp; done)) | (focus (repeat' (first | exact True.intro | apply And.intro | rfl | exact Nat.le_of_ble_eq_true rfl)); done) | (simp [inR, Cont.cells]; done) | (simp [inR, Cont.cells]; omega)))
 | ((with_reducible apply If_dec) <;> intro hc <;> (try (exfalso; omega)))
 | ((with_reducible apply If_any) <;> intro hc)
 | ((with_reducible first | apply PF.mk | apply DrawP.mk); (focus kernel_rfl))
 | ((with_reducible apply Same.mk); (focus rfl); (first | exact trivial | exact rfl))
 | (intro cap hcap)
 | ((fail_if_success (with_reducible first | apply Fin.mk | apply CallP.mk | apply LoopP.mk | apply VC.mk | apply falseMk | apply Round.mk | apply Eq.symm)); conv => whnf))
      refine doFl_at y.2 (n + cost (wrs rs)) 1 ⟨o2, by omega⟩ rfl ⟨rfl, trivial⟩ ?_
      have e1 := DF.run_good g2 [.fl, .wr j.pos z, .fl]
      rw [DF.run] at e1
      have o3 := DF.doOp_ok o2 .fl
      rw [show FOp.fl.size = 0 from rfl] at o3
      obtain ⟨x, hx⟩ : ∃ x, x = y.2.doOp .fl := ⟨_, rfl⟩
      rw [← hx] at e1 o3
      rw [← hx]
      repeat' (first
 | (with_reducible first | exact True.intro | apply And.intro | apply If_true | apply If_false | apply If_not)
 | ((with_reducible apply VC.mk); (first | trivial | omega | (simp only [inR]; omega) | (exact ⟨rfl, List.prefix_rfl⟩) | (refine ⟨rfl, rfl, rfl, ?_, rfl⟩; (simp; done)) | (focus (repeat' (first | exact True.intro | apply And.intro | rfl | exact Nat.le_of_ble_eq_true rfl)); done) | (simp [inR, Cont.cells]; done) | (simp [inR, Cont.cells]; omega)))
 | ((with_reducible apply If_dec) <;> intro hc <;> (try (exfalso; omega)))
 | ((with_reducible apply If_any) <;> intro hc)
 | ((with_reducible first | apply PF.mk | apply DrawP.mk); (focus kernel_rfl))
 | ((with_reducible apply Same.mk); (focus rfl); (first | exact trivial | exact rfl))
 | (intro cap hcap)
 | ((fail_if_success (with_reducible first | apply Fin.mk | apply CallP.mk | apply LoopP.mk | apply VC.mk | apply falseMk | apply Round.mk | apply Eq.symm)); conv => whnf))
      · rw [if_neg hc] at e1
        exact J2.fin rfl rfl rfl (hk x e1.symm)
      · rw [if_pos (Decidable.not_not.mp hc)] at e1
        refine clear_at j x.2 (n + cost (wrs rs) + 1 + 0) z 0 1 ⟨hj, o3, by omega, hz⟩ rfl rfl rfl ⟨rfl, trivial⟩ ?_
        intro q hq
        repeat' (first
 | (with_reducible first | exact True.intro | apply And.intro | apply If_true | apply If_false | apply If_not)
 | ((with_reducible apply VC.mk); (first | trivial | omega | (simp only [inR]; omega) | (exact ⟨rfl, List.prefix_rfl⟩) | (refine ⟨rfl, rfl, rfl, ?_, rfl⟩; (simp; done)) | (focus (repeat' (first | exact True.intro | apply And.intro | rfl | exact Nat.le_of_ble_eq_true rfl)); done) | (simp [inR, Cont.cells]; done) | (simp [inR, Cont.cells]; omega)))
 | ((with_reducible apply If_dec) <;> intro hc <;> (try (exfalso; omega)))
 | ((with_reducible apply If_any) <;> intro hc)
 | ((with_reducible first | apply PF.mk | apply DrawP.mk); (focus kernel_rfl))
 | ((with_reducible apply Same.mk); (focus rfl); (first | exact trivial | exact rfl))
 | (intro cap hcap)
 | ((fail_if_success (with_reducible first | apply Fin.mk | apply CallP.mk | apply LoopP.mk | apply VC.mk | apply falseMk | apply Round.mk | apply Eq.symm)); conv => whnf))
        exact J2.fin rfl rfl rfl (hk q (by rw [e1]; exact hq))
def applyOk (x : JR × DF × Int × List Int × List RecR) : Prop := x.1.Ok ∧ x.2.1.Ok x.2.2.1 ∧ x.2.2.1 ≤ 137438953472 ∧ x.2.2.2.2.length ≤ 1073741824 ∧ (∀ r ∈ x.2.2.2.2, r.2.length ≤ 1073741824) ∧ cost (wrs x.2.2.2.2) ≤ 68719476736 ∧ x.2.2.2.1 = List.replicate 512 0
def applyRel (x : JR × DF × Int × List Int × List RecR) (r : Int × DF) : Prop := r = x.2.1.run (wrs x.2.2.2.2 ++ [.fl, .wr x.1.pos x.2.2.2.1, .fl])
theorem apply_K : ConOk Go.Proofs.Try.prog 69 (Con.of (JR × DF × Int × List Int × List RecR) (Int × DF) (fun x => [.p 0 0 1 0, .im false 2 x.2.2.2.2.length (recsC false x.2.2.2.2)]) (fun x => [x.1.blk 1, x.2.1.pk]) applyOk applyRel (fun x r => .v (.int .i64 r.1)) (fun x r => [JR.blk (x.1) 1, DF.pk (r.2)])) := by
  refine conOk_rel (T := tab) mix Go.Proofs.Try.func69 (by decide +kernel) (by kernel_rfl) [] p69 (fun n => by rw [Go.Proofs.Try.ntmps69]; exact Nat.le_of_ble_eq_true rfl) (fun x r _ _ => J2.good (by simp [AV.noF, noFs, Cont.noF])) (fun x _ => J2.nd) ?_
  intro x k h0 hk
  exact apply_c x.1 x.2.1 x.2.2.1 x.2.2.2.1 x.2.2.2.2 k h0 (fun r hr => hk r hr)
theorem apply_at {avs : List AV} {H : List Chunk} {k : K} (j : JR) (s : DF) (n : Int) (z : List Int) (rs : List RecR) (a b : Nat) (h0 : j.Ok ∧ s.Ok n ∧ n ≤ 137438953472 ∧ rs.length ≤ 1073741824 ∧ (∀ r ∈ rs, r.2.length ≤ 1073741824) ∧ cost (wrs rs) ≤ 68719476736 ∧ z = List.replicate 512 0) (hab : nodupN [a, b] = true) (ha0 : nth H a = some (j.blk b)) (hb0 : nth H b = some s.pk) (ha : argsM H [a, b] [.p 0 0 1 0, .im false 2 rs.length (recsC false rs)] avs)
    (h : ∀ r : Int × DF, (r = s.run (wrs rs ++ [.fl, .wr j.pos z, .fl])) → k (.v (.int .i64 r.1)) ((H.set a (JR.blk (j) b)).set b (DF.pk (r.2)))) : CallP Go.Proofs.Try.prog 69 avs H k :=
  CallP.mk ⟨_, apply_K.real, Con.spec apply_K, (j, s, n, z, rs), [a, b], ⟨h0, hab, ⟨ha0, hb0, trivial⟩, ha⟩, fun r hr => (numK_eq _ _).mpr (by simpa [putAll, AV.ren, rens, Cont.ren, Chunk.ren, DF.pk, JR.blk, fren, nth] using h r hr)⟩
end Go.Proofs.Ytjccknmgmommcaa.Sx

