import Derived.Test.YtjccknmgmommcaaSxX2
set_option linter.unusedVariables false
set_option linter.unusedSimpArgs false
set_option maxRecDepth 10000
namespace Go.Proofs.Ytjccknmgmommcaa.Sx
open Go.RowKit Go.Proofs.Ytjccknmgmommcaa.Sx.Tb
/-! ### Put -/
def TR.wr1 (t : TR) (now : List Int) (a : Nat) (xs : List Int) : TR := { t with dirty := upS ((a / 512 : Nat) : Int) (putG (t.sec now ((a / 512 : Nat) : Int)) (a % 512) xs) t.dirty }
def TR.putF : Nat → TR → List Int → Nat → List Int → TR
  | 0, t, _, _, _ => t
  | f + 1, t, now, a, p => if p.length = 0 then t else TR.putF f (t.wr1 now a (p.take (min p.length (512 - a % 512)))) now (a + min p.length (512 - a % 512)) (p.drop (min p.length (512 - a % 512)))
def TR.put (t : TR) (now : List Int) (a : Nat) (p : List Int) : TR := TR.putF p.length t now a p
theorem upS_len {n : Int} {v : List Int} (hv : v.length = 512) : ∀ (d : List (Int × List Int)), (∀ x ∈ d, x.2.length = 512) → ∀ x ∈ upS n v d, x.2.length = 512
  | [], _, x, hx => by
    simp [upS] at hx; subst hx; exact hv
  | (a, u) :: r, h, x, hx => by
    unfold upS at hx
    split at hx
    · rcases List.mem_cons.1 hx with rfl | hx
      · exact hv
      · exact h x (List.mem_cons_of_mem _ hx)
    · rcases List.mem_cons.1 hx with rfl | hx
      · exact h _ (List.mem_cons_self ..)
      · exact upS_len hv r (fun y hy => h y (List.mem_cons_of_mem _ hy)) x hx
theorem TR.Ok.wr1 {t : TR} (h : t.Ok) (now : List Int) (a : Nat) (xs : List Int) (hx : xs.length ≤ 512 - a % 512) : (t.wr1 now a xs).Ok := by
  refine ⟨?_, h.frs, h.cap, h.len⟩
  show ∀ x ∈ upS _ _ _, _
  exact upS_len (by rw [putG_length (by rw [h.sec_length _ _ (by omega)]; omega), h.sec_length _ _ (by omega)]; omega) _ h.sec
end Go.Proofs.Ytjccknmgmommcaa.Sx

