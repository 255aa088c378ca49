import Derived.Test.YtjccknmgmommcaaSxEc
import Derived.Test.YtjccknmgmommcaaProg
/- The program's types, as a table. (Written by gentab.py.) -/
set_option linter.unusedVariables false
set_option linter.unusedSimpArgs false
namespace Go.Proofs.Ytjccknmgmommcaa.Sx.Tb
open Go.RowKit Go.Proofs.Ytjccknmgmommcaa.Sx
def td : Nat → Option TD
  | 2 => some (.int .i64)
  | 3 => some (.int .i64)
  | 4 => some (.bool)
  | 5 => some (.int .u8)
  | 9 => some (.str)
  | 12 => some (.int .u64)
  | 21 => some (.int .i32)
  | 22 => some (.sl 5)
  | 23 => some (.sl 34)
  | 24 => some (.sl 4)
  | 27 => some (.ptr 145)
  | 28 => some (.int .i64)
  | 32 => some (.sl 22)
  | 33 => some (.st [(0, 3), (1, 2), (2, 2), (3, 22)])
  | 34 => some (.st [(0, 3), (1, 2), (2, 2), (3, 22)])
  | 38 => some (.ptr 41)
  | 39 => some (.sl 197)
  | 40 => some (.st [(0, 22), (1, 39), (2, 3), (3, 3), (4, 3), (5, 3)])
  | 41 => some (.st [(0, 22), (1, 39), (2, 3), (3, 3), (4, 3), (5, 3)])
  | 47 => some (.int .u64)
  | 55 => some (.sl 2)
  | 56 => some (.sl 72)
  | 57 => some (.ptr 170)
  | 60 => some (.ptr 158)
  | 63 => some (.st [(0, 3), (1, 2), (2, 2), (3, 2), (4, 4)])
  | 64 => some (.st [(0, 3), (1, 2), (2, 2), (3, 2), (4, 4)])
  | 66 => some (.sl 70)
  | 69 => some (.st [(0, 3), (1, 2), (2, 4)])
  | 70 => some (.st [(0, 3), (1, 2), (2, 4)])
  | 72 => some (.st [(0, 3), (1, 2), (2, 4)])
  | 83 => some (.ptr 163)
  | 88 => some (.sl 3)
  | 98 => some (.sl 101)
  | 100 => some (.st [(0, 3), (1, 2), (2, 3)])
  | 101 => some (.st [(0, 3), (1, 2), (2, 3)])
  | 103 => some (.st [(0, 2), (1, 2)])
  | 104 => some (.st [(0, 2), (1, 2)])
  | 109 => some (.ptr 176)
  | 113 => some (.sl 174)
  | 118 => some (.st [(0, 3), (1, 22), (2, 3), (3, 3), (4, 113)])
  | 119 => some (.st [(0, 3), (1, 22), (2, 3), (3, 3), (4, 113)])
  | 120 => some (.st [(0, 3), (1, 24)])
  | 121 => some (.st [(0, 3), (1, 24)])
  | 124 => some (.sl 186)
  | 136 => some (.sl 140)
  | 139 => some (.st [(0, 3), (1, 3), (2, 3), (3, 22)])
  | 140 => some (.st [(0, 3), (1, 3), (2, 3), (3, 22)])
  | 143 => some (.sl 147)
  | 144 => some (.st [(0, 22), (1, 22), (2, 143), (3, 3), (4, 3), (5, 3), (6, 3)])
  | 145 => some (.st [(0, 22), (1, 22), (2, 143), (3, 3), (4, 3), (5, 3), (6, 3)])
  | 146 => some (.st [(0, 4), (1, 2), (2, 22)])
  | 147 => some (.st [(0, 4), (1, 2), (2, 22)])
  | 157 => some (.st [(0, 64), (5, 57), (6, 2)])
  | 158 => some (.st [(0, 64), (5, 57), (6, 2)])
  | 162 => some (.st [(0, 64), (5, 57)])
  | 163 => some (.st [(0, 64), (5, 57)])
  | 164 => some (.int .u16)
  | 168 => some (.mp 2 191)
  | 169 => some (.st [(0, 109), (1, 168), (2, 113), (3, 4)])
  | 170 => some (.st [(0, 109), (1, 168), (2, 113), (3, 4)])
  | 173 => some (.st [(0, 2), (1, 22)])
  | 174 => some (.st [(0, 2), (1, 22)])
  | 175 => some (.st [(0, 27), (1, 2), (2, 2), (3, 47)])
  | 176 => some (.st [(0, 27), (1, 2), (2, 2), (3, 47)])
  | 177 => some (.int .u32)
  | 186 => some (.st [(0, 2), (1, 22)])
  | 190 => some (.ar 512 5)
  | 191 => some (.ar 512 5)
  | 196 => some (.st [(0, 4), (1, 3), (2, 22)])
  | 197 => some (.st [(0, 4), (1, 3), (2, 22)])
  | 198 => some (.int .u64)
  | 218 => some (.int .i64)
  | 227 => some (.int .u64)
  | 231 => some (.ptr 3)
  | 234 => some (.ptr 227)
  | 246 => some (.ptr 5)
  | 249 => some (.st [(0, 12), (1, 12), (2, 177), (3, 243), (4, 5), (5, 5), (6, 244), (7, 245), (8, 246), (9, 247), (10, 248)])
  | _ => none
def ti : Nat → Option (Cont × Nat × Nat)
  | 2 => some (.ints .i64 [0], 1, 8)
  | 3 => some (.ints .i64 [0], 1, 8)
  | 4 => some (.lst [.v (.bool false)], 1, 1)
  | 5 => some (.ints .u8 [0], 1, 1)
  | 9 => some (.lst [.v (.string ⟨#[]⟩)], 1, 16)
  | 12 => some (.ints .u64 [0], 1, 8)
  | 21 => some (.ints .i32 [0], 1, 4)
  | 22 => some (.lst [.v (.slice none 0 0)], 1, 24)
  | 23 => some (.lst [.v (.slice none 0 0)], 1, 24)
  | 24 => some (.lst [.v (.slice none 0 0)], 1, 24)
  | 27 => some (.lst [.v (.pointer none)], 1, 8)
  | 28 => some (.ints .i64 [0], 1, 8)
  | 32 => some (.lst [.v (.slice none 0 0)], 1, 24)
  | 33 => some (.lst [.v (.int .i64 0), .v (.int .i64 0), .v (.int .i64 0), .v (.slice none 0 0)], 4, 48)
  | 34 => some (.lst [.v (.int .i64 0), .v (.int .i64 0), .v (.int .i64 0), .v (.slice none 0 0)], 4, 48)
  | 38 => some (.lst [.v (.pointer none)], 1, 8)
  | 39 => some (.lst [.v (.slice none 0 0)], 1, 24)
  | 40 => some (.lst [.v (.slice none 0 0), .v (.slice none 0 0), .v (.int .i64 0), .v (.int .i64 0), .v (.int .i64 0), .v (.int .i64 0)], 6, 80)
  | 41 => some (.lst [.v (.slice none 0 0), .v (.slice none 0 0), .v (.int .i64 0), .v (.int .i64 0), .v (.int .i64 0), .v (.int .i64 0)], 6, 80)
  | 47 => some (.ints .u64 [0], 1, 8)
  | 55 => some (.lst [.v (.slice none 0 0)], 1, 24)
  | 56 => some (.lst [.v (.slice none 0 0)], 1, 24)
  | 57 => some (.lst [.v (.pointer none)], 1, 8)
  | 60 => some (.lst [.v (.pointer none)], 1, 8)
  | 63 => some (.lst [.v (.int .i64 0), .v (.int .i64 0), .v (.int .i64 0), .v (.int .i64 0), .v (.bool false)], 5, 40)
  | 64 => some (.lst [.v (.int .i64 0), .v (.int .i64 0), .v (.int .i64 0), .v (.int .i64 0), .v (.bool false)], 5, 40)
  | 66 => some (.lst [.v (.slice none 0 0)], 1, 24)
  | 69 => some (.lst [.v (.int .i64 0), .v (.int .i64 0), .v (.bool false)], 3, 24)
  | 70 => some (.lst [.v (.int .i64 0), .v (.int .i64 0), .v (.bool false)], 3, 24)
  | 72 => some (.lst [.v (.int .i64 0), .v (.int .i64 0), .v (.bool false)], 3, 24)
  | 83 => some (.lst [.v (.pointer none)], 1, 8)
  | 88 => some (.lst [.v (.slice none 0 0)], 1, 24)
  | 98 => some (.lst [.v (.slice none 0 0)], 1, 24)
  | 100 => some (.lst [.v (.int .i64 0), .v (.int .i64 0), .v (.int .i64 0)], 3, 24)
  | 101 => some (.lst [.v (.int .i64 0), .v (.int .i64 0), .v (.int .i64 0)], 3, 24)
  | 103 => some (.lst [.v (.int .i64 0), .v (.int .i64 0)], 2, 16)
  | 104 => some (.lst [.v (.int .i64 0), .v (.int .i64 0)], 2, 16)
  | 109 => some (.lst [.v (.pointer none)], 1, 8)
  | 113 => some (.lst [.v (.slice none 0 0)], 1, 24)
  | 118 => some (.lst [.v (.int .i64 0), .v (.slice none 0 0), .v (.int .i64 0), .v (.int .i64 0), .v (.slice none 0 0)], 5, 72)
  | 119 => some (.lst [.v (.int .i64 0), .v (.slice none 0 0), .v (.int .i64 0), .v (.int .i64 0), .v (.slice none 0 0)], 5, 72)
  | 120 => some (.lst [.v (.int .i64 0), .v (.slice none 0 0)], 2, 32)
  | 121 => some (.lst [.v (.int .i64 0), .v (.slice none 0 0)], 2, 32)
  | 124 => some (.lst [.v (.slice none 0 0)], 1, 24)
  | 136 => some (.lst [.v (.slice none 0 0)], 1, 24)
  | 139 => some (.lst [.v (.int .i64 0), .v (.int .i64 0), .v (.int .i64 0), .v (.slice none 0 0)], 4, 48)
  | 140 => some (.lst [.v (.int .i64 0), .v (.int .i64 0), .v (.int .i64 0), .v (.slice none 0 0)], 4, 48)
  | 143 => some (.lst [.v (.slice none 0 0)], 1, 24)
  | 144 => some (.lst [.v (.slice none 0 0), .v (.slice none 0 0), .v (.slice none 0 0), .v (.int .i64 0), .v (.int .i64 0), .v (.int .i64 0), .v (.int .i64 0)], 7, 104)
  | 145 => some (.lst [.v (.slice none 0 0), .v (.slice none 0 0), .v (.slice none 0 0), .v (.int .i64 0), .v (.int .i64 0), .v (.int .i64 0), .v (.int .i64 0)], 7, 104)
  | 146 => some (.lst [.v (.bool false), .v (.int .i64 0), .v (.slice none 0 0)], 3, 40)
  | 147 => some (.lst [.v (.bool false), .v (.int .i64 0), .v (.slice none 0 0)], 3, 40)
  | 157 => some (.lst [.v (.int .i64 0), .v (.int .i64 0), .v (.int .i64 0), .v (.int .i64 0), .v (.bool false), .v (.pointer none), .v (.int .i64 0)], 7, 56)
  | 158 => some (.lst [.v (.int .i64 0), .v (.int .i64 0), .v (.int .i64 0), .v (.int .i64 0), .v (.bool false), .v (.pointer none), .v (.int .i64 0)], 7, 56)
  | 162 => some (.lst [.v (.int .i64 0), .v (.int .i64 0), .v (.int .i64 0), .v (.int .i64 0), .v (.bool false), .v (.pointer none)], 6, 48)
  | 163 => some (.lst [.v (.int .i64 0), .v (.int .i64 0), .v (.int .i64 0), .v (.int .i64 0), .v (.bool false), .v (.pointer none)], 6, 48)
  | 164 => some (.ints .u16 [0], 1, 2)
  | 168 => some (.lst [.v (.map none)], 1, 8)
  | 169 => some (.lst [.v (.pointer none), .v (.map none), .v (.slice none 0 0), .v (.bool false)], 4, 48)
  | 170 => some (.lst [.v (.pointer none), .v (.map none), .v (.slice none 0 0), .v (.bool false)], 4, 48)
  | 173 => some (.lst [.v (.int .i64 0), .v (.slice none 0 0)], 2, 32)
  | 174 => some (.lst [.v (.int .i64 0), .v (.slice none 0 0)], 2, 32)
  | 175 => some (.lst [.v (.pointer none), .v (.int .i64 0), .v (.int .i64 0), .v (.int .u64 0)], 4, 32)
  | 176 => some (.lst [.v (.pointer none), .v (.int .i64 0), .v (.int .i64 0), .v (.int .u64 0)], 4, 32)
  | 177 => some (.ints .u32 [0], 1, 4)
  | 186 => some (.lst [.v (.int .i64 0), .v (.slice none 0 0)], 2, 32)
  | 190 => some (.ints .u8 (List.replicate 512 0), 512, 512)
  | 191 => some (.ints .u8 (List.replicate 512 0), 512, 512)
  | 196 => some (.lst [.v (.bool false), .v (.int .i64 0), .v (.slice none 0 0)], 3, 40)
  | 197 => some (.lst [.v (.bool false), .v (.int .i64 0), .v (.slice none 0 0)], 3, 40)
  | 198 => some (.ints .u64 [0], 1, 8)
  | 218 => some (.ints .i64 [0], 1, 8)
  | 227 => some (.ints .u64 [0], 1, 8)
  | 231 => some (.lst [.v (.pointer none)], 1, 8)
  | 234 => some (.lst [.v (.pointer none)], 1, 8)
  | 246 => some (.lst [.v (.pointer none)], 1, 8)
  | 249 => some (.lst [.v (.int .u64 0), .v (.int .u64 0), .v (.int .u32 0), .v (.int .u8 0), .v (.int .u8 0), .v (.int .u8 0), .v (.int .u8 0), .v (.nilFunc), .v (.pointer none), .v (.int .i32 0), .v (.int .i32 0)], 11, 48)
  | _ => none
theorem td_ok : ∀ t d, td t = some d → d.ok Try.prog t := by
  intro t d h
  unfold td at h
  split at h <;> (first | (cases h; done) | (cases h; first | (show _ = _; kernel_rfl) | exact st_of (by kernel_rfl) (by simp)))
set_option maxRecDepth 100000 in
theorem ti_ok : ∀ t c s b, ti t = some (c, s, b) → Zero Try.prog t c s b := by
  intro t c s b h
  unfold ti at h
  split at h
  · cases h; exact zero_of (z := .int .i64 0) (by kernel_rfl) (fun _ _ _ => @Cells.ints _ _ _ .i64 [0]) (by decide) rfl
  · cases h; exact zero_of (z := .int .i64 0) (by kernel_rfl) (fun _ _ _ => @Cells.ints _ _ _ .i64 [0]) (by decide) rfl
  · cases h; exact zero_of (z := .bool false) (by kernel_rfl) (fun _ _ _ => .lst (reps_v [.bool false])) (by decide) rfl
  · cases h; exact zero_of (z := .int .u8 0) (by kernel_rfl) (fun _ _ _ => @Cells.ints _ _ _ .u8 [0]) (by decide) rfl
  · cases h; exact zero_of (z := .string ⟨#[]⟩) (by kernel_rfl) (fun _ _ _ => .lst (reps_v [.string ⟨#[]⟩])) (by decide) rfl
  · cases h; exact zero_of (z := .int .u64 0) (by kernel_rfl) (fun _ _ _ => @Cells.ints _ _ _ .u64 [0]) (by decide) rfl
  · cases h; exact zero_of (z := .int .i32 0) (by kernel_rfl) (fun _ _ _ => @Cells.ints _ _ _ .i32 [0]) (by decide) rfl
  · cases h; exact zero_of (z := .slice none 0 0) (by kernel_rfl) (fun _ _ _ => .lst (reps_v [.slice none 0 0])) (by decide) rfl
  · cases h; exact zero_of (z := .slice none 0 0) (by kernel_rfl) (fun _ _ _ => .lst (reps_v [.slice none 0 0])) (by decide) rfl
  · cases h; exact zero_of (z := .slice none 0 0) (by kernel_rfl) (fun _ _ _ => .lst (reps_v [.slice none 0 0])) (by decide) rfl
  · cases h; exact zero_of (z := .pointer none) (by kernel_rfl) (fun _ _ _ => .lst (reps_v [.pointer none])) (by decide) rfl
  · cases h; exact zero_of (z := .int .i64 0) (by kernel_rfl) (fun _ _ _ => @Cells.ints _ _ _ .i64 [0]) (by decide) rfl
  · cases h; exact zero_of (z := .slice none 0 0) (by kernel_rfl) (fun _ _ _ => .lst (reps_v [.slice none 0 0])) (by decide) rfl
  · cases h; exact zero_of (z := .agg #[.int .i64 0, .int .i64 0, .int .i64 0, .slice none 0 0]) (by kernel_rfl) (fun _ _ _ => .lst (reps_v [.int .i64 0, .int .i64 0, .int .i64 0, .slice none 0 0])) (by decide) rfl
  · cases h; exact zero_of (z := .agg #[.int .i64 0, .int .i64 0, .int .i64 0, .slice none 0 0]) (by kernel_rfl) (fun _ _ _ => .lst (reps_v [.int .i64 0, .int .i64 0, .int .i64 0, .slice none 0 0])) (by decide) rfl
  · cases h; exact zero_of (z := .pointer none) (by kernel_rfl) (fun _ _ _ => .lst (reps_v [.pointer none])) (by decide) rfl
  · cases h; exact zero_of (z := .slice none 0 0) (by kernel_rfl) (fun _ _ _ => .lst (reps_v [.slice none 0 0])) (by decide) rfl
  · cases h; exact zero_of (z := .agg #[.slice none 0 0, .slice none 0 0, .int .i64 0, .int .i64 0, .int .i64 0, .int .i64 0]) (by kernel_rfl) (fun _ _ _ => .lst (reps_v [.slice none 0 0, .slice none 0 0, .int .i64 0, .int .i64 0, .int .i64 0, .int .i64 0])) (by decide) rfl
  · cases h; exact zero_of (z := .agg #[.slice none 0 0, .slice none 0 0, .int .i64 0, .int .i64 0, .int .i64 0, .int .i64 0]) (by kernel_rfl) (fun _ _ _ => .lst (reps_v [.slice none 0 0, .slice none 0 0, .int .i64 0, .int .i64 0, .int .i64 0, .int .i64 0])) (by decide) rfl
  · cases h; exact zero_of (z := .int .u64 0) (by kernel_rfl) (fun _ _ _ => @Cells.ints _ _ _ .u64 [0]) (by decide) rfl
  · cases h; exact zero_of (z := .slice none 0 0) (by kernel_rfl) (fun _ _ _ => .lst (reps_v [.slice none 0 0])) (by decide) rfl
  · cases h; exact zero_of (z := .slice none 0 0) (by kernel_rfl) (fun _ _ _ => .lst (reps_v [.slice none 0 0])) (by decide) rfl
  · cases h; exact zero_of (z := .pointer none) (by kernel_rfl) (fun _ _ _ => .lst (reps_v [.pointer none])) (by decide) rfl
  · cases h; exact zero_of (z := .pointer none) (by kernel_rfl) (fun _ _ _ => .lst (reps_v [.pointer none])) (by decide) rfl
  · cases h; exact zero_of (z := .agg #[.int .i64 0, .int .i64 0, .int .i64 0, .int .i64 0, .bool false]) (by kernel_rfl) (fun _ _ _ => .lst (reps_v [.int .i64 0, .int .i64 0, .int .i64 0, .int .i64 0, .bool false])) (by decide) rfl
  · cases h; exact zero_of (z := .agg #[.int .i64 0, .int .i64 0, .int .i64 0, .int .i64 0, .bool false]) (by kernel_rfl) (fun _ _ _ => .lst (reps_v [.int .i64 0, .int .i64 0, .int .i64 0, .int .i64 0, .bool false])) (by decide) rfl
  · cases h; exact zero_of (z := .slice none 0 0) (by kernel_rfl) (fun _ _ _ => .lst (reps_v [.slice none 0 0])) (by decide) rfl
  · cases h; exact zero_of (z := .agg #[.int .i64 0, .int .i64 0, .bool false]) (by kernel_rfl) (fun _ _ _ => .lst (reps_v [.int .i64 0, .int .i64 0, .bool false])) (by decide) rfl
  · cases h; exact zero_of (z := .agg #[.int .i64 0, .int .i64 0, .bool false]) (by kernel_rfl) (fun _ _ _ => .lst (reps_v [.int .i64 0, .int .i64 0, .bool false])) (by decide) rfl
  · cases h; exact zero_of (z := .agg #[.int .i64 0, .int .i64 0, .bool false]) (by kernel_rfl) (fun _ _ _ => .lst (reps_v [.int .i64 0, .int .i64 0, .bool false])) (by decide) rfl
  · cases h; exact zero_of (z := .pointer none) (by kernel_rfl) (fun _ _ _ => .lst (reps_v [.pointer none])) (by decide) rfl
  · cases h; exact zero_of (z := .slice none 0 0) (by kernel_rfl) (fun _ _ _ => .lst (reps_v [.slice none 0 0])) (by decide) rfl
  · cases h; exact zero_of (z := .slice none 0 0) (by kernel_rfl) (fun _ _ _ => .lst (reps_v [.slice none 0 0])) (by decide) rfl
  · cases h; exact zero_of (z := .agg #[.int .i64 0, .int .i64 0, .int .i64 0]) (by kernel_rfl) (fun _ _ _ => .lst (reps_v [.int .i64 0, .int .i64 0, .int .i64 0])) (by decide) rfl
  · cases h; exact zero_of (z := .agg #[.int .i64 0, .int .i64 0, .int .i64 0]) (by kernel_rfl) (fun _ _ _ => .lst (reps_v [.int .i64 0, .int .i64 0, .int .i64 0])) (by decide) rfl
  · cases h; exact zero_of (z := .agg #[.int .i64 0, .int .i64 0]) (by kernel_rfl) (fun _ _ _ => .lst (reps_v [.int .i64 0, .int .i64 0])) (by decide) rfl
  · cases h; exact zero_of (z := .agg #[.int .i64 0, .int .i64 0]) (by kernel_rfl) (fun _ _ _ => .lst (reps_v [.int .i64 0, .int .i64 0])) (by decide) rfl
  · cases h; exact zero_of (z := .pointer none) (by kernel_rfl) (fun _ _ _ => .lst (reps_v [.pointer none])) (by decide) rfl
  · cases h; exact zero_of (z := .slice none 0 0) (by kernel_rfl) (fun _ _ _ => .lst (reps_v [.slice none 0 0])) (by decide) rfl
  · cases h; exact zero_of (z := .agg #[.int .i64 0, .slice none 0 0, .int .i64 0, .int .i64 0, .slice none 0 0]) (by kernel_rfl) (fun _ _ _ => .lst (reps_v [.int .i64 0, .slice none 0 0, .int .i64 0, .int .i64 0, .slice none 0 0])) (by decide) rfl
  · cases h; exact zero_of (z := .agg #[.int .i64 0, .slice none 0 0, .int .i64 0, .int .i64 0, .slice none 0 0]) (by kernel_rfl) (fun _ _ _ => .lst (reps_v [.int .i64 0, .slice none 0 0, .int .i64 0, .int .i64 0, .slice none 0 0])) (by decide) rfl
  · cases h; exact zero_of (z := .agg #[.int .i64 0, .slice none 0 0]) (by kernel_rfl) (fun _ _ _ => .lst (reps_v [.int .i64 0, .slice none 0 0])) (by decide) rfl
  · cases h; exact zero_of (z := .agg #[.int .i64 0, .slice none 0 0]) (by kernel_rfl) (fun _ _ _ => .lst (reps_v [.int .i64 0, .slice none 0 0])) (by decide) rfl
  · cases h; exact zero_of (z := .slice none 0 0) (by kernel_rfl) (fun _ _ _ => .lst (reps_v [.slice none 0 0])) (by decide) rfl
  · cases h; exact zero_of (z := .slice none 0 0) (by kernel_rfl) (fun _ _ _ => .lst (reps_v [.slice none 0 0])) (by decide) rfl
  · cases h; exact zero_of (z := .agg #[.int .i64 0, .int .i64 0, .int .i64 0, .slice none 0 0]) (by kernel_rfl) (fun _ _ _ => .lst (reps_v [.int .i64 0, .int .i64 0, .int .i64 0, .slice none 0 0])) (by decide) rfl
  · cases h; exact zero_of (z := .agg #[.int .i64 0, .int .i64 0, .int .i64 0, .slice none 0 0]) (by kernel_rfl) (fun _ _ _ => .lst (reps_v [.int .i64 0, .int .i64 0, .int .i64 0, .slice none 0 0])) (by decide) rfl
  · cases h; exact zero_of (z := .slice none 0 0) (by kernel_rfl) (fun _ _ _ => .lst (reps_v [.slice none 0 0])) (by decide) rfl
  · cases h; exact zero_of (z := .agg #[.slice none 0 0, .slice none 0 0, .slice none 0 0, .int .i64 0, .int .i64 0, .int .i64 0, .int .i64 0]) (by kernel_rfl) (fun _ _ _ => .lst (reps_v [.slice none 0 0, .slice none 0 0, .slice none 0 0, .int .i64 0, .int .i64 0, .int .i64 0, .int .i64 0])) (by decide) rfl
  · cases h; exact zero_of (z := .agg #[.slice none 0 0, .slice none 0 0, .slice none 0 0, .int .i64 0, .int .i64 0, .int .i64 0, .int .i64 0]) (by kernel_rfl) (fun _ _ _ => .lst (reps_v [.slice none 0 0, .slice none 0 0, .slice none 0 0, .int .i64 0, .int .i64 0, .int .i64 0, .int .i64 0])) (by decide) rfl
  · cases h; exact zero_of (z := .agg #[.bool false, .int .i64 0, .slice none 0 0]) (by kernel_rfl) (fun _ _ _ => .lst (reps_v [.bool false, .int .i64 0, .slice none 0 0])) (by decide) rfl
  · cases h; exact zero_of (z := .agg #[.bool false, .int .i64 0, .slice none 0 0]) (by kernel_rfl) (fun _ _ _ => .lst (reps_v [.bool false, .int .i64 0, .slice none 0 0])) (by decide) rfl
  · cases h; exact zero_of (z := .agg #[.int .i64 0, .int .i64 0, .int .i64 0, .int .i64 0, .bool false, .pointer none, .int .i64 0]) (by kernel_rfl) (fun _ _ _ => .lst (reps_v [.int .i64 0, .int .i64 0, .int .i64 0, .int .i64 0, .bool false, .pointer none, .int .i64 0])) (by decide) rfl
  · cases h; exact zero_of (z := .agg #[.int .i64 0, .int .i64 0, .int .i64 0, .int .i64 0, .bool false, .pointer none, .int .i64 0]) (by kernel_rfl) (fun _ _ _ => .lst (reps_v [.int .i64 0, .int .i64 0, .int .i64 0, .int .i64 0, .bool false, .pointer none, .int .i64 0])) (by decide) rfl
  · cases h; exact zero_of (z := .agg #[.int .i64 0, .int .i64 0, .int .i64 0, .int .i64 0, .bool false, .pointer none]) (by kernel_rfl) (fun _ _ _ => .lst (reps_v [.int .i64 0, .int .i64 0, .int .i64 0, .int .i64 0, .bool false, .pointer none])) (by decide) rfl
  · cases h; exact zero_of (z := .agg #[.int .i64 0, .int .i64 0, .int .i64 0, .int .i64 0, .bool false, .pointer none]) (by kernel_rfl) (fun _ _ _ => .lst (reps_v [.int .i64 0, .int .i64 0, .int .i64 0, .int .i64 0, .bool false, .pointer none])) (by decide) rfl
  · cases h; exact zero_of (z := .int .u16 0) (by kernel_rfl) (fun _ _ _ => @Cells.ints _ _ _ .u16 [0]) (by decide) rfl
  · cases h; exact zero_of (z := .map none) (by kernel_rfl) (fun _ _ _ => .lst (reps_v [.map none])) (by decide) rfl
  · cases h; exact zero_of (z := .agg #[.pointer none, .map none, .slice none 0 0, .bool false]) (by kernel_rfl) (fun _ _ _ => .lst (reps_v [.pointer none, .map none, .slice none 0 0, .bool false])) (by decide) rfl
  · cases h; exact zero_of (z := .agg #[.pointer none, .map none, .slice none 0 0, .bool false]) (by kernel_rfl) (fun _ _ _ => .lst (reps_v [.pointer none, .map none, .slice none 0 0, .bool false])) (by decide) rfl
  · cases h; exact zero_of (z := .agg #[.int .i64 0, .slice none 0 0]) (by kernel_rfl) (fun _ _ _ => .lst (reps_v [.int .i64 0, .slice none 0 0])) (by decide) rfl
  · cases h; exact zero_of (z := .agg #[.int .i64 0, .slice none 0 0]) (by kernel_rfl) (fun _ _ _ => .lst (reps_v [.int .i64 0, .slice none 0 0])) (by decide) rfl
  · cases h; exact zero_of (z := .agg #[.pointer none, .int .i64 0, .int .i64 0, .int .u64 0]) (by kernel_rfl) (fun _ _ _ => .lst (reps_v [.pointer none, .int .i64 0, .int .i64 0, .int .u64 0])) (by decide) rfl
  · cases h; exact zero_of (z := .agg #[.pointer none, .int .i64 0, .int .i64 0, .int .u64 0]) (by kernel_rfl) (fun _ _ _ => .lst (reps_v [.pointer none, .int .i64 0, .int .i64 0, .int .u64 0])) (by decide) rfl
  · cases h; exact zero_of (z := .int .u32 0) (by kernel_rfl) (fun _ _ _ => @Cells.ints _ _ _ .u32 [0]) (by decide) rfl
  · cases h; exact zero_of (z := .agg #[.int .i64 0, .slice none 0 0]) (by kernel_rfl) (fun _ _ _ => .lst (reps_v [.int .i64 0, .slice none 0 0])) (by decide) rfl
  · cases h; exact zero_of (z := .agg (List.replicate 512 (.int .u8 0)).toArray) (by kernel_rfl) (fun _ _ _ => zero_arr .u8 512) (zero_arr1 .u8 512) (zero_arr2 .u8 512)
  · cases h; exact zero_of (z := .agg (List.replicate 512 (.int .u8 0)).toArray) (by kernel_rfl) (fun _ _ _ => zero_arr .u8 512) (zero_arr1 .u8 512) (zero_arr2 .u8 512)
  · cases h; exact zero_of (z := .agg #[.bool false, .int .i64 0, .slice none 0 0]) (by kernel_rfl) (fun _ _ _ => .lst (reps_v [.bool false, .int .i64 0, .slice none 0 0])) (by decide) rfl
  · cases h; exact zero_of (z := .agg #[.bool false, .int .i64 0, .slice none 0 0]) (by kernel_rfl) (fun _ _ _ => .lst (reps_v [.bool false, .int .i64 0, .slice none 0 0])) (by decide) rfl
  · cases h; exact zero_of (z := .int .u64 0) (by kernel_rfl) (fun _ _ _ => @Cells.ints _ _ _ .u64 [0]) (by decide) rfl
  · cases h; exact zero_of (z := .int .i64 0) (by kernel_rfl) (fun _ _ _ => @Cells.ints _ _ _ .i64 [0]) (by decide) rfl
  · cases h; exact zero_of (z := .int .u64 0) (by kernel_rfl) (fun _ _ _ => @Cells.ints _ _ _ .u64 [0]) (by decide) rfl
  · cases h; exact zero_of (z := .pointer none) (by kernel_rfl) (fun _ _ _ => .lst (reps_v [.pointer none])) (by decide) rfl
  · cases h; exact zero_of (z := .pointer none) (by kernel_rfl) (fun _ _ _ => .lst (reps_v [.pointer none])) (by decide) rfl
  · cases h; exact zero_of (z := .pointer none) (by kernel_rfl) (fun _ _ _ => .lst (reps_v [.pointer none])) (by decide) rfl
  · cases h; exact zero_of (z := .agg #[.int .u64 0, .int .u64 0, .int .u32 0, .int .u8 0, .int .u8 0, .int .u8 0, .int .u8 0, .nilFunc, .pointer none, .int .i32 0, .int .i32 0]) (by kernel_rfl) (fun _ _ _ => .lst (reps_v [.int .u64 0, .int .u64 0, .int .u32 0, .int .u8 0, .int .u8 0, .int .u8 0, .int .u8 0, .nilFunc, .pointer none, .int .i32 0, .int .i32 0])) (by decide) rfl
  · cases h
def tab : Tab Try.prog := ⟨td, ti, td_ok, ti_ok⟩
end Go.Proofs.Ytjccknmgmommcaa.Sx.Tb


namespace Go.Proofs.Ytjccknmgmommcaa.Sx
def p3 : Plans := [(25, .L [(0, []), (1, []), (2, []), (3, []), (4, []), (5, []), (6, []), (7, []), (8, []), (9, []), (10, []), (11, []), (12, []), (13, []), (14, []), (15, [])])]
def p10 : Plans := [(19, .L [(0, []), (1, []), (2, []), (4, []), (5, []), (6, []), (7, []), (3, [0, 1, 4, 5, 6, 7]), (8, []), (9, [])]), (28, (.st 0 [] (.st 2 [] (.ch (.hv 1 [2] (.ch (.hv 3 [] (.ch (.hv 4 [0, 2] (.st 5 [0, 2] (.st 6 [] (.st 7 [] .nil))) (.hv 5 [0, 2] (.st 4 [0, 2] (.st 6 [] (.st 7 [] .nil))) .nil))) (.hv 4 [0, 2] (.ch (.hv 3 [] (.st 5 [0, 2] (.st 6 [] (.st 7 [] .nil))) (.hv 5 [0, 2] (.st 3 [] (.st 6 [] (.st 7 [] .nil))) .nil))) (.hv 5 [0, 2] (.ch (.hv 3 [] (.st 4 [0, 2] (.st 6 [] (.st 7 [] .nil))) (.hv 4 [0, 2] (.st 3 [] (.st 6 [] (.st 7 [] .nil))) .nil))) .nil)))) (.hv 4 [0, 2] (.ch (.hv 1 [2] (.ch (.hv 3 [] (.st 5 [0, 2] (.st 6 [] (.st 7 [] .nil))) (.hv 5 [0, 2] (.st 3 [] (.st 6 [] (.st 7 [] .nil))) .nil))) (.hv 5 [0, 2] (.st 1 [2] (.st 3 [] (.st 6 [] (.st 7 [] .nil)))) .nil))) (.hv 5 [0, 2] (.ch (.hv 1 [2] (.ch (.hv 3 [] (.st 4 [0, 2] (.st 6 [] (.st 7 [] .nil))) (.hv 4 [0, 2] (.st 3 [] (.st 6 [] (.st 7 [] .nil))) .nil))) (.hv 4 [0, 2] (.st 1 [2] (.st 3 [] (.st 6 [] (.st 7 [] .nil)))) .nil))) .nil))))))), (30, .L [(0, []), (1, []), (2, []), (3, []), (4, []), (5, []), (6, []), (7, []), (8, [0, 1, 2]), (9, []), (10, [])]), (31, .L [(0, []), (2, []), (3, []), (4, []), (5, []), (6, []), (7, []), (8, []), (1, [2, 3, 4, 5, 6, 7, 8]), (9, [2, 3]), (10, []), (11, [])])]
def p19 : Plans := [(12, .L [(0, []), (1, []), (2, []), (3, []), (4, []), (5, []), (6, [0, 1, 2, 3, 4]), (7, [0]), (8, []), (9, []), (10, [])]), (13, .L [(0, []), (1, []), (2, []), (3, []), (4, []), (5, []), (6, [0]), (7, []), (8, []), (9, [])]), (14, .L [(0, []), (1, []), (2, []), (3, []), (4, []), (5, []), (6, []), (7, [])])]
def p43 : Plans := [(1, .L [(0, []), (2, []), (1, [2]), (3, []), (4, []), (5, []), (6, [])])]
def p46 : Plans := [(4, .L [(0, []), (1, []), (2, []), (3, []), (4, []), (5, []), (6, []), (7, []), (10, []), (11, []), (8, [0, 1, 2, 3, 10, 11]), (9, []), (12, []), (13, []), (14, []), (15, []), (16, []), (17, []), (18, [])])]
def p47 : Plans := [(3, .L [(0, []), (1, []), (2, []), (3, []), (4, []), (5, []), (6, []), (7, []), (10, []), (11, []), (12, []), (13, []), (14, []), (15, []), (8, [0, 1, 2, 3, 10, 11, 12, 13, 14, 15]), (9, []), (16, []), (17, []), (18, []), (19, []), (20, []), (21, [])])]
def p52 : Plans := [(5, .L [(0, []), (2, []), (4, []), (1, [2, 4]), (3, [4]), (5, []), (6, []), (7, []), (8, [])]), (7, .L [(0, []), (1, []), (2, []), (3, []), (4, []), (5, []), (6, []), (7, []), (8, []), (9, []), (10, []), (11, []), (12, [9, 10]), (13, []), (14, []), (15, []), (16, [])]), (9, .L [(0, []), (1, []), (2, []), (3, [0, 1]), (4, []), (5, []), (6, []), (7, []), (8, []), (9, []), (10, []), (11, []), (13, []), (14, []), (12, [13, 14]), (15, []), (16, []), (17, [])])]
def p53 : Plans := [(8, .L [(0, []), (1, []), (2, []), (3, []), (4, []), (5, []), (6, []), (7, []), (10, []), (11, []), (13, []), (8, [0, 1, 2, 3, 10, 11, 13]), (9, []), (12, []), (14, []), (15, [])])]
def p54 : Plans := [(1, .L [(0, []), (3, []), (1, [3]), (2, []), (4, [2]), (5, []), (6, [])])]
def p55 : Plans := [(16, .L [(0, []), (1, []), (2, []), (3, []), (4, []), (5, []), (6, []), (7, []), (8, [])]), (18, .L [(0, []), (1, []), (2, []), (3, []), (4, []), (5, []), (6, []), (7, []), (8, [])]), (20, .L [(0, []), (1, []), (2, []), (3, []), (4, []), (5, []), (6, []), (7, []), (8, []), (9, []), (10, []), (11, []), (12, [])])]
def p56 : Plans := [(6, .L [(0, []), (3, []), (4, []), (5, []), (6, []), (1, [3, 4, 5, 6]), (2, []), (7, [2]), (8, [])]), (12, .L [(0, []), (1, []), (2, []), (3, []), (4, []), (5, []), (6, []), (7, []), (8, []), (9, []), (10, []), (11, []), (12, [])])]
def p58 : Plans := [(2, .L [(0, []), (1, []), (2, []), (4, []), (3, [0, 1, 4]), (5, [0, 1]), (6, []), (7, []), (8, []), (9, [])])]
def p59 : Plans := [(1, .L [(0, []), (2, []), (4, []), (5, []), (6, []), (7, []), (8, []), (1, [2, 4, 5, 6, 7, 8]), (3, [4, 5, 6, 7, 8]), (9, []), (10, []), (11, [])])]
def p68 : Plans := [(12, .L [(0, []), (1, []), (2, []), (3, []), (4, []), (5, []), (6, []), (7, []), (8, []), (9, []), (10, []), (11, [])]), (19, .L [(0, []), (1, []), (2, []), (3, []), (4, []), (5, []), (6, []), (7, []), (8, []), (9, []), (10, []), (11, []), (12, []), (13, []), (14, []), (15, [0, 1, 2, 3, 4, 5, 6, 7]), (16, []), (17, [])])]
def p69 : Plans := [(6, .L [(0, []), (1, []), (2, []), (3, []), (4, []), (5, []), (6, []), (7, []), (8, []), (9, [])])]
def p70 : Plans := [(3, .L [(0, []), (1, []), (2, []), (3, []), (4, []), (5, []), (6, []), (7, []), (8, [0, 1, 2, 3, 4, 5, 6, 7]), (9, []), (10, [])])]
def p80 : Plans := [(12, .L [(0, []), (1, []), (2, []), (3, []), (4, []), (5, []), (6, [])]), (13, .L [(0, []), (1, []), (2, []), (3, []), (4, []), (5, []), (6, []), (7, [])]), (14, .L [(0, []), (1, []), (2, []), (3, []), (4, []), (5, []), (6, []), (7, [])])]
def p86 : Plans := [(4, .L [(0, []), (1, []), (2, []), (3, []), (4, []), (5, []), (6, []), (7, []), (8, []), (9, []), (10, []), (11, []), (12, []), (13, []), (14, []), (15, []), (16, []), (17, []), (18, []), (19, []), (20, []), (21, []), (22, []), (23, []), (24, []), (25, []), (26, []), (27, []), (28, []), (29, []), (30, []), (31, []), (32, []), (33, [])])]
def p87 : Plans := [(6, .L [(0, []), (1, []), (2, []), (3, []), (4, []), (5, []), (6, [])])]
def p102 : Plans := [(1, .L [(0, []), (1, []), (2, []), (3, []), (4, []), (5, [0, 1, 2, 3]), (6, []), (7, [])])]
def p103 : Plans := [(1, .L [(0, []), (3, []), (1, [3]), (2, []), (4, [2]), (5, []), (6, []), (7, [])])]
def p106 : Plans := [(13, .L [(0, []), (1, []), (2, []), (3, []), (4, []), (5, []), (6, []), (7, []), (8, []), (9, []), (10, []), (11, []), (12, [0, 1, 2, 3]), (13, []), (14, []), (15, [])])]
def p108 : Plans := [(1, .L [(0, []), (1, []), (2, []), (3, []), (4, []), (5, []), (6, [0, 1, 2, 3, 4]), (7, []), (8, [])])]
def p113 : Plans := [(1, .L [(0, []), (1, []), (2, []), (3, []), (4, []), (5, []), (6, []), (7, []), (8, []), (9, []), (10, []), (11, []), (12, []), (13, []), (14, []), (15, []), (16, []), (17, []), (18, []), (19, []), (20, []), (21, []), (22, []), (23, []), (24, []), (25, []), (26, []), (27, []), (28, []), (29, []), (30, []), (31, []), (32, []), (33, []), (34, []), (35, []), (36, []), (37, []), (38, []), (39, [])])]
def p118 : Plans := [(15, .L [(0, []), (1, []), (2, []), (3, [])])]
def p119 : Plans := [(4, .L [(0, []), (1, []), (2, []), (3, []), (4, []), (5, []), (6, []), (7, []), (8, []), (9, []), (10, []), (11, []), (12, []), (13, []), (14, []), (15, [])])]
end Go.Proofs.Ytjccknmgmommcaa.Sx

