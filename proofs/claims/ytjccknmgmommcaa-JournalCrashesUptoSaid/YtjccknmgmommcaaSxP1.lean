import Derived.Test.YtjccknmgmommcaaSxJ8
set_option linter.unusedVariables false
set_option linter.unusedSimpArgs false
set_option maxRecDepth 10000
namespace Go.Proofs.Ytjccknmgmommcaa.Sx
/-! ### What is signed is pending -/
theorem putB_mid (P Q R : List Int) (n : Nat) (v : Int) (h : Q.length = n) (p : Nat) (hp : P.length = p) : putB (P ++ (Q ++ R)) p n v = P ++ (leB n v ++ R) := by
  subst hp h
  rw [putB_eq _ _ _ _ (by simp)]
  have e1 : (P ++ (Q ++ R)).take P.length = P := by simp
  have e2 : (P ++ (Q ++ R)).drop (P.length + Q.length) = R := by rw [← List.append_assoc, ← List.length_append]; simp
  rw [e1, e2, List.append_assoc]
def headL (seq : Int) (n : Nat) (body : List Int) : List Int := leB 4 826954822 ++ (leB 8 seq ++ (leB 4 (n : Int) ++ (leB 4 (body.length : Int) ++ leB 4 (moreL 0 body))))
theorem headL_length (seq : Int) (n : Nat) (body : List Int) : (headL seq n body).length = 24 := by simp [headL, leB_length]
theorem signL_eq (seq : Int) (n : Nat) (body : List Int) : signL seq n body = headL seq n body ++ (leB 4 (moreL 0 (headL seq n body)) ++ List.replicate 484 0) := by
  have r : ∀ Z : List Int, Z = List.replicate 484 0 → List.replicate 512 (0:Int) = [] ++ (List.replicate 4 0 ++ (List.replicate 8 0 ++ (List.replicate 4 0 ++ (List.replicate 4 0 ++ (List.replicate 4 0 ++ (List.replicate 4 0 ++ Z)))))) := by
    intro Z hZ
    subst hZ
    simp only [List.replicate_append_replicate, List.nil_append]
  obtain ⟨Z, hZ⟩ : ∃ Z : List Int, Z = List.replicate 484 0 := ⟨_, rfl⟩
  have r := r Z hZ
  rw [← hZ]
  obtain ⟨W, hW⟩ : ∃ W : List Int, W = List.replicate 512 0 := ⟨_, rfl⟩
  unfold signL
  rw [← hW] at r ⊢
  clear hZ hW
  obtain ⟨sum, hsum⟩ : ∃ x, x = moreL 0 body := ⟨_, rfl⟩
  have h4 : (List.replicate 4 (0:Int)).length = 4 := rfl
  have h8 : (List.replicate 8 (0:Int)).length = 8 := rfl
  simp only
  rw [r, putB_mid [] _ _ 4 _ h4 0 rfl, List.nil_append]
  rw [putB_mid (leB 4 826954822) _ _ 8 _ h8 4 (leB_length _ _)]
  rw [← List.append_assoc (leB 4 826954822), putB_mid (leB 4 826954822 ++ leB 8 seq) _ _ 4 _ h4 12 (by simp [leB_length])]
  rw [← List.append_assoc (leB 4 826954822 ++ leB 8 seq), putB_mid _ _ _ 4 _ h4 16 (by simp [leB_length])]
  rw [← List.append_assoc (leB 4 826954822 ++ leB 8 seq ++ leB 4 (n : Int)), putB_mid _ _ _ 4 _ h4 20 (by simp [leB_length])]
  rw [← List.append_assoc (leB 4 826954822 ++ leB 8 seq ++ leB 4 (n : Int) ++ leB 4 (body.length : Int))]
  have hh : leB 4 826954822 ++ leB 8 seq ++ leB 4 (n : Int) ++ leB 4 (body.length : Int) ++ leB 4 (moreL 0 body) = headL seq n body := by simp [headL]
  rw [hh, putB_mid _ _ _ 4 _ h4 24 (headL_length _ _ _)]
  have ht : (headL seq n body ++ (List.replicate 4 0 ++ Z)).take 24 = headL seq n body := by
    rw [← headL_length seq n body]; simp
  rw [ht]
theorem le4_mid (P : List Int) (v : Int) (R : List Int) (p : Nat) (hp : P.length = p) (h : 0 ≤ v ∧ v < 4294967296) : le4 (P ++ (leB 4 v ++ R)) p = v := by
  subst hp
  unfold le4
  have e : ((P ++ (leB 4 v ++ R)).drop P.length).take 4 = leB 4 v := by
    rw [List.drop_left, List.take_append_of_le_length (by rw [leB_length]; exact Nat.le_refl _)]
    exact List.take_of_length_le (by rw [leB_length]; exact Nat.le_refl _)
  rw [e, leV_leB 4 v h.1 (by have := h.2; simpa using this)]
theorem le8_mid (P : List Int) (v : Int) (R : List Int) (p : Nat) (hp : P.length = p) (h : 0 ≤ v ∧ v < 18446744073709551616) : le8 (P ++ (leB 8 v ++ R)) p = v := by
  subst hp
  unfold le8
  have e : ((P ++ (leB 8 v ++ R)).drop P.length).take 8 = leB 8 v := by
    rw [List.drop_left, List.take_append_of_le_length (by rw [leB_length]; exact Nat.le_refl _)]
    exact List.take_of_length_le (by rw [leB_length]; exact Nat.le_refl _)
  rw [e, leV_leB 8 v h.1 (by have := h.2; simpa using this)]
def recP (r : RecR) : Prop := 0 ≤ r.1 ∧ r.1 ≤ 4194304 ∧ r.2.length < 4294967296
theorem dec1_mid (P : List Int) (r : RecR) (T : List Int) (p : Nat) (hp : P.length = p) (h : recP r) : dec1 (P ++ (enc1 r ++ T)) p = some r := by
  obtain ⟨h1, h2, h3⟩ := h
  have a8 : le8 (P ++ (enc1 r ++ T)) p = r.1 := by
    unfold enc1
    rw [List.append_assoc, List.append_assoc]
    exact le8_mid P r.1 _ p hp ⟨h1, by omega⟩
  have a4 : le4 (P ++ (enc1 r ++ T)) (p + 8) = (r.2.length : Int) := by
    unfold enc1
    rw [List.append_assoc, List.append_assoc, ← List.append_assoc P]
    exact le4_mid _ _ _ (p + 8) (by rw [List.length_append, leB_length, hp]) ⟨by omega, by omega⟩
  have e : ((P ++ (enc1 r ++ T)).drop (p + 12)).take (r.2.length : Int).toNat = r.2 := by
    have e1 : P ++ (enc1 r ++ T) = (P ++ (leB 8 r.1 ++ leB 4 (r.2.length : Int))) ++ (r.2 ++ T) := by unfold enc1; simp [List.append_assoc]
    have e2 : (P ++ (leB 8 r.1 ++ leB 4 (r.2.length : Int))).length = p + 12 := by simp [leB_length, hp]
    rw [e1, ← e2, List.drop_left, Int.toNat_natCast, List.take_left]
  unfold dec1
  rw [a4, a8, e, if_pos]
  refine ⟨?_, ?_, h2⟩ <;> rw [List.length_append, List.length_append, enc1_length, hp] <;> omega
theorem decF_enc (rs : List RecR) (h : ∀ r ∈ rs, recP r) : ∀ i, i ≤ rs.length → decF (encL rs) i = some (rs.take i, (encL (rs.take i)).length)
  | 0, _ => rfl
  | i + 1, hi => by
    have ih := decF_enc rs h i (by omega)
    have hm : rs[i] ∈ rs := List.getElem_mem (by omega)
    have e : encL rs = encL (rs.take i) ++ (enc1 rs[i] ++ encL (rs.drop (i + 1))) := by
      have : rs = rs.take i ++ (rs[i] :: rs.drop (i + 1)) := by rw [← List.drop_eq_getElem_cons]; exact (List.take_append_drop i rs).symm
      have e2 : ∀ a b : List RecR, encL (a ++ b) = encL a ++ encL b := fun a b => by simp [encL]
      have e3 : encL rs = encL (rs.take i ++ (rs[i] :: rs.drop (i + 1))) := congrArg encL this
      rw [e3, e2]
      rfl
    have hd : dec1 (encL rs) (encL (rs.take i)).length = some rs[i] := by rw [e]; exact dec1_mid _ _ _ _ rfl (h _ hm)
    have hs := encL_snoc rs i (by omega)
    have hg : rs.getD i (0, []) = rs[i] := by rw [List.getD_eq_getElem?_getD, List.getElem?_eq_getElem (by omega), Option.getD_some]
    rw [hg] at hs
    rw [decF, ih]
    simp only [hd]
    rw [hs, List.length_append, enc1_length, List.take_add_one, List.getElem?_eq_getElem (by omega)]
    simp [Nat.add_assoc]
theorem decL_enc (rs : List RecR) (h : ∀ r ∈ rs, recP r) : decL (encL rs) rs.length = some rs := by
  unfold decL
  rw [decF_enc rs h _ (Nat.le_refl _), List.take_length]
  simp
/-- The journal's part, signed. -/
theorem pend_signed (j : JR) (seq : Int) (rs : List RecR) (rest : List Int) (hj : j.size - 512 ≤ 4294967295) (hs : 0 ≤ seq ∧ seq < 18446744073709551616) (ho : ∀ r ∈ rs, j.out r.1 r.2.length) (hr : ∀ r ∈ rs, recP r) (hn : (encL rs).length ≤ j.size - 512) :
    pendB j (signL seq rs.length (encL rs) ++ (encL rs ++ rest)) = some rs ∧ le8 (signL seq rs.length (encL rs) ++ (encL rs ++ rest)) 4 = seq := by
  have hcnt : (rs.length : Int) * 12 ≤ (encL rs).length := by
    clear ho hr hn
    induction rs with
    | nil => simp [encL]
    | cons r rs ih =>
      have : encL (r :: rs) = enc1 r ++ encL rs := rfl
      rw [this, List.length_append, enc1_length, List.length_cons]; omega
  obtain ⟨body, hb⟩ : ∃ body, body = encL rs := ⟨_, rfl⟩
  rw [← hb] at hn hcnt ⊢
  obtain ⟨Z, hZ⟩ : ∃ Z : List Int, Z = List.replicate 484 0 := ⟨_, rfl⟩
  have hZl : Z.length = 484 := by rw [hZ]; exact List.length_replicate ..
  have hH := headL_length seq rs.length body
  have hsg := signL_eq seq rs.length body
  rw [← hZ] at hsg
  have R1 := moreL_R 0 body
  have R2 := moreL_R 0 (headL seq rs.length body)
  obtain ⟨l, hl⟩ : ∃ l, l = signL seq rs.length body ++ (body ++ rest) := ⟨_, rfl⟩
  rw [← hl]
  have l1 : l = leB 4 826954822 ++ (leB 8 seq ++ (leB 4 (rs.length : Int) ++ (leB 4 (body.length : Int) ++ (leB 4 (moreL 0 body) ++ (leB 4 (moreL 0 (headL seq rs.length body)) ++ (Z ++ (body ++ rest))))))) := by
    rw [hl, hsg]; simp only [headL, List.append_assoc]
  have l2 : l = headL seq rs.length body ++ (leB 4 (moreL 0 (headL seq rs.length body)) ++ (Z ++ (body ++ rest))) := by
    rw [hl, hsg]; simp only [List.append_assoc]
  have L4 := leB_length 4
  have L8 := leB_length 8
  have m0 : le4 l 0 = 826954822 := by rw [l1]; exact le4_mid [] _ _ 0 rfl (by decide)
  have m4 : le8 l 4 = seq := by rw [l1]; exact le8_mid (leB 4 826954822) _ _ 4 (L4 _) hs
  have m12 : le4 l 12 = (rs.length : Int) := by
    rw [l1, ← List.append_assoc]; exact le4_mid _ _ _ 12 (by simp [L4, L8]) ⟨by omega, by omega⟩
  have m16 : le4 l 16 = (body.length : Int) := by
    rw [l1, ← List.append_assoc, ← List.append_assoc]; exact le4_mid _ _ _ 16 (by simp [L4, L8]) ⟨by omega, by omega⟩
  have m20 : le4 l 20 = moreL 0 body := by
    rw [l1, ← List.append_assoc, ← List.append_assoc, ← List.append_assoc]; exact le4_mid _ _ _ 20 (by simp [L4, L8]) R1
  have m24 : le4 l 24 = moreL 0 (headL seq rs.length body) := by rw [l2]; exact le4_mid _ _ _ 24 hH R2
  have t24 : l.take 24 = headL seq rs.length body := by rw [l2, ← hH]; exact List.take_left ..
  have z28 : (l.drop 28).take 484 = Z := by
    rw [l2, ← List.append_assoc]
    have : (headL seq rs.length body ++ leB 4 (moreL 0 (headL seq rs.length body))).length = 28 := by rw [List.length_append, hH, L4]
    rw [← this, List.drop_left, ← hZl, List.take_left]
  have b512 : (l.drop 512).take body.length = body := by
    rw [hl]
    have : (signL seq rs.length body).length = 512 := by rw [hsg, List.length_append, List.length_append, hH, L4, hZl]
    rw [← this, List.drop_left, List.take_left]
  refine ⟨?_, m4⟩
  have ok : pendOk j l := by
    refine ⟨m0, by rw [m24, t24], by rw [m16]; exact hn, by rw [m12]; omega, ?_, by rw [m20, m16, Int.toNat_natCast, b512]⟩
    rw [z28, hZ]
    intro x hx
    exact (List.mem_replicate.1 hx).2
  unfold pendB
  rw [if_pos ok, m16, m12, Int.toNat_natCast, Int.toNat_natCast, b512, hb, decL_enc rs hr]
  simp only
  rw [if_pos ho]
end Go.Proofs.Ytjccknmgmommcaa.Sx

