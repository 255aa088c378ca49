import Derived.Test.YtcfmlnddmpiemaaSxEc
import Derived.Test.YtcfmlnddmpiemaaProg
/- The program's types, as a table. (Written by gentab.py.) -/
set_option linter.unusedVariables false
set_option linter.unusedSimpArgs false
namespace Go.Proofs.Ytcfmlnddmpiemaa.Sx.Tb
open Go.RowKit Go.Proofs.Ytcfmlnddmpiemaa.Sx
def td : Nat → Option TD
  | 2 => some (.int .i64)
  | 3 => some (.int .i64)
  | 4 => some (.bool)
  | 5 => some (.int .u8)
  | 9 => some (.str)
  | 12 => some (.int .u64)
  | 21 => some (.int .i32)
  | 22 => some (.sl 2)
  | 23 => some (.sl 4)
  | 24 => some (.st [(0, 3), (1, 2), (2, 2), (3, 2), (4, 4)])
  | 25 => some (.st [(0, 3), (1, 2), (2, 2), (3, 2), (4, 4)])
  | 26 => some (.int .i64)
  | 29 => some (.sl 5)
  | 30 => some (.st [(0, 2), (1, 2)])
  | 31 => some (.st [(0, 2), (1, 2)])
  | 33 => some (.ptr 113)
  | 36 => some (.ptr 134)
  | 37 => some (.ptr 126)
  | 38 => some (.ptr 119)
  | 42 => some (.st [(0, 3), (1, 2), (2, 4)])
  | 43 => some (.st [(0, 3), (1, 2), (2, 4)])
  | 51 => some (.sl 3)
  | 54 => some (.sl 43)
  | 58 => some (.sl 67)
  | 59 => some (.ptr 140)
  | 62 => some (.sl 29)
  | 63 => some (.sl 31)
  | 64 => some (.sl 31)
  | 66 => some (.st [(0, 51), (1, 29)])
  | 67 => some (.st [(0, 51), (1, 29)])
  | 77 => some (.sl 85)
  | 84 => some (.st [(0, 3), (1, 3), (2, 3), (3, 29)])
  | 85 => some (.st [(0, 3), (1, 3), (2, 3), (3, 29)])
  | 92 => some (.st [(0, 3), (1, 23)])
  | 93 => some (.st [(0, 3), (1, 23)])
  | 94 => some (.st [(0, 3), (1, 5), (2, 77), (3, 93)])
  | 95 => some (.st [(0, 3), (1, 5), (2, 77), (3, 93)])
  | 96 => some (.int .u64)
  | 99 => some (.int .u32)
  | 100 => some (.st [(0, 62), (1, 3), (2, 3), (3, 99)])
  | 101 => some (.st [(0, 62), (1, 3), (2, 3), (3, 99)])
  | 111 => some (.sl 143)
  | 112 => some (.st [(0, 29), (1, 29), (2, 111), (3, 3), (4, 3), (5, 3), (6, 3)])
  | 113 => some (.st [(0, 29), (1, 29), (2, 111), (3, 3), (4, 3), (5, 3), (6, 3)])
  | 118 => some (.st [(0, 25), (5, 36), (6, 2)])
  | 119 => some (.st [(0, 25), (5, 36), (6, 2)])
  | 125 => some (.st [(0, 25), (5, 36)])
  | 126 => some (.st [(0, 25), (5, 36)])
  | 131 => some (.mp 2 154)
  | 132 => some (.sl 138)
  | 133 => some (.st [(0, 59), (1, 131), (2, 132), (3, 4)])
  | 134 => some (.st [(0, 59), (1, 131), (2, 132), (3, 4)])
  | 137 => some (.st [(0, 2), (1, 29)])
  | 138 => some (.st [(0, 2), (1, 29)])
  | 139 => some (.st [(0, 33), (1, 2), (2, 2), (3, 96)])
  | 140 => some (.st [(0, 33), (1, 2), (2, 2), (3, 96)])
  | 142 => some (.st [(0, 4), (1, 2), (2, 29)])
  | 143 => some (.st [(0, 4), (1, 2), (2, 29)])
  | 145 => some (.int .u16)
  | 153 => some (.ar 512 5)
  | 154 => some (.ar 512 5)
  | 157 => some (.sl 64)
  | 169 => some (.int .u64)
  | 186 => some (.int .i64)
  | 200 => some (.int .u64)
  | 204 => some (.ptr 3)
  | 208 => some (.ptr 200)
  | 221 => some (.ptr 5)
  | 224 => some (.st [(0, 12), (1, 12), (2, 99), (3, 218), (4, 5), (5, 5), (6, 219), (7, 220), (8, 221), (9, 222), (10, 223)])
  | _ => none
def ti : Nat → Option (Cont × Nat × Nat)
  | 2 => some (.ints .i64 [0], 1, 8)
  | 3 => some (.ints .i64 [0], 1, 8)
  | 4 => some (.lst [.v (.bool false)], 1, 1)
  | 5 => some (.ints .u8 [0], 1, 1)
  | 9 => some (.lst [.v (.string ⟨#[]⟩)], 1, 16)
  | 12 => some (.ints .u64 [0], 1, 8)
  | 21 => some (.ints .i32 [0], 1, 4)
  | 22 => some (.lst [.v (.slice none 0 0)], 1, 24)
  | 23 => some (.lst [.v (.slice none 0 0)], 1, 24)
  | 24 => some (.lst [.v (.int .i64 0), .v (.int .i64 0), .v (.int .i64 0), .v (.int .i64 0), .v (.bool false)], 5, 40)
  | 25 => some (.lst [.v (.int .i64 0), .v (.int .i64 0), .v (.int .i64 0), .v (.int .i64 0), .v (.bool false)], 5, 40)
  | 26 => some (.ints .i64 [0], 1, 8)
  | 29 => some (.lst [.v (.slice none 0 0)], 1, 24)
  | 30 => some (.lst [.v (.int .i64 0), .v (.int .i64 0)], 2, 16)
  | 31 => some (.lst [.v (.int .i64 0), .v (.int .i64 0)], 2, 16)
  | 33 => some (.lst [.v (.pointer none)], 1, 8)
  | 36 => some (.lst [.v (.pointer none)], 1, 8)
  | 37 => some (.lst [.v (.pointer none)], 1, 8)
  | 38 => some (.lst [.v (.pointer none)], 1, 8)
  | 42 => some (.lst [.v (.int .i64 0), .v (.int .i64 0), .v (.bool false)], 3, 24)
  | 43 => some (.lst [.v (.int .i64 0), .v (.int .i64 0), .v (.bool false)], 3, 24)
  | 51 => some (.lst [.v (.slice none 0 0)], 1, 24)
  | 54 => some (.lst [.v (.slice none 0 0)], 1, 24)
  | 58 => some (.lst [.v (.slice none 0 0)], 1, 24)
  | 59 => some (.lst [.v (.pointer none)], 1, 8)
  | 62 => some (.lst [.v (.slice none 0 0)], 1, 24)
  | 63 => some (.lst [.v (.slice none 0 0)], 1, 24)
  | 64 => some (.lst [.v (.slice none 0 0)], 1, 24)
  | 66 => some (.lst [.v (.slice none 0 0), .v (.slice none 0 0)], 2, 48)
  | 67 => some (.lst [.v (.slice none 0 0), .v (.slice none 0 0)], 2, 48)
  | 77 => some (.lst [.v (.slice none 0 0)], 1, 24)
  | 84 => some (.lst [.v (.int .i64 0), .v (.int .i64 0), .v (.int .i64 0), .v (.slice none 0 0)], 4, 48)
  | 85 => some (.lst [.v (.int .i64 0), .v (.int .i64 0), .v (.int .i64 0), .v (.slice none 0 0)], 4, 48)
  | 92 => some (.lst [.v (.int .i64 0), .v (.slice none 0 0)], 2, 32)
  | 93 => some (.lst [.v (.int .i64 0), .v (.slice none 0 0)], 2, 32)
  | 94 => some (.lst [.v (.int .i64 0), .v (.int .u8 0), .v (.slice none 0 0), .v (.int .i64 0), .v (.slice none 0 0)], 5, 72)
  | 95 => some (.lst [.v (.int .i64 0), .v (.int .u8 0), .v (.slice none 0 0), .v (.int .i64 0), .v (.slice none 0 0)], 5, 72)
  | 96 => some (.ints .u64 [0], 1, 8)
  | 99 => some (.ints .u32 [0], 1, 4)
  | 100 => some (.lst [.v (.slice none 0 0), .v (.int .i64 0), .v (.int .i64 0), .v (.int .u32 0)], 4, 48)
  | 101 => some (.lst [.v (.slice none 0 0), .v (.int .i64 0), .v (.int .i64 0), .v (.int .u32 0)], 4, 48)
  | 111 => some (.lst [.v (.slice none 0 0)], 1, 24)
  | 112 => some (.lst [.v (.slice none 0 0), .v (.slice none 0 0), .v (.slice none 0 0), .v (.int .i64 0), .v (.int .i64 0), .v (.int .i64 0), .v (.int .i64 0)], 7, 104)
  | 113 => some (.lst [.v (.slice none 0 0), .v (.slice none 0 0), .v (.slice none 0 0), .v (.int .i64 0), .v (.int .i64 0), .v (.int .i64 0), .v (.int .i64 0)], 7, 104)
  | 118 => some (.lst [.v (.int .i64 0), .v (.int .i64 0), .v (.int .i64 0), .v (.int .i64 0), .v (.bool false), .v (.pointer none), .v (.int .i64 0)], 7, 56)
  | 119 => some (.lst [.v (.int .i64 0), .v (.int .i64 0), .v (.int .i64 0), .v (.int .i64 0), .v (.bool false), .v (.pointer none), .v (.int .i64 0)], 7, 56)
  | 125 => some (.lst [.v (.int .i64 0), .v (.int .i64 0), .v (.int .i64 0), .v (.int .i64 0), .v (.bool false), .v (.pointer none)], 6, 48)
  | 126 => some (.lst [.v (.int .i64 0), .v (.int .i64 0), .v (.int .i64 0), .v (.int .i64 0), .v (.bool false), .v (.pointer none)], 6, 48)
  | 131 => some (.lst [.v (.map none)], 1, 8)
  | 132 => some (.lst [.v (.slice none 0 0)], 1, 24)
  | 133 => some (.lst [.v (.pointer none), .v (.map none), .v (.slice none 0 0), .v (.bool false)], 4, 48)
  | 134 => some (.lst [.v (.pointer none), .v (.map none), .v (.slice none 0 0), .v (.bool false)], 4, 48)
  | 137 => some (.lst [.v (.int .i64 0), .v (.slice none 0 0)], 2, 32)
  | 138 => some (.lst [.v (.int .i64 0), .v (.slice none 0 0)], 2, 32)
  | 139 => some (.lst [.v (.pointer none), .v (.int .i64 0), .v (.int .i64 0), .v (.int .u64 0)], 4, 32)
  | 140 => some (.lst [.v (.pointer none), .v (.int .i64 0), .v (.int .i64 0), .v (.int .u64 0)], 4, 32)
  | 142 => some (.lst [.v (.bool false), .v (.int .i64 0), .v (.slice none 0 0)], 3, 40)
  | 143 => some (.lst [.v (.bool false), .v (.int .i64 0), .v (.slice none 0 0)], 3, 40)
  | 145 => some (.ints .u16 [0], 1, 2)
  | 153 => some (.ints .u8 (List.replicate 512 0), 512, 512)
  | 154 => some (.ints .u8 (List.replicate 512 0), 512, 512)
  | 157 => some (.lst [.v (.slice none 0 0)], 1, 24)
  | 169 => some (.ints .u64 [0], 1, 8)
  | 186 => some (.ints .i64 [0], 1, 8)
  | 200 => some (.ints .u64 [0], 1, 8)
  | 204 => some (.lst [.v (.pointer none)], 1, 8)
  | 208 => some (.lst [.v (.pointer none)], 1, 8)
  | 221 => some (.lst [.v (.pointer none)], 1, 8)
  | 224 => some (.lst [.v (.int .u64 0), .v (.int .u64 0), .v (.int .u32 0), .v (.int .u8 0), .v (.int .u8 0), .v (.int .u8 0), .v (.int .u8 0), .v (.nilFunc), .v (.pointer none), .v (.int .i32 0), .v (.int .i32 0)], 11, 48)
  | _ => none
theorem td_ok : ∀ t d, td t = some d → d.ok Try.prog t := by
  intro t d h
  unfold td at h
  split at h <;> (first | (cases h; done) | (cases h; first | (show _ = _; kernel_rfl) | exact st_of (by kernel_rfl) (by simp)))
set_option maxRecDepth 100000 in
theorem ti_ok : ∀ t c s b, ti t = some (c, s, b) → Zero Try.prog t c s b := by
  intro t c s b h
  unfold ti at h
  split at h
  · cases h; exact zero_of (z := .int .i64 0) (by kernel_rfl) (fun _ _ _ => @Cells.ints _ _ _ .i64 [0]) (by decide) rfl
  · cases h; exact zero_of (z := .int .i64 0) (by kernel_rfl) (fun _ _ _ => @Cells.ints _ _ _ .i64 [0]) (by decide) rfl
  · cases h; exact zero_of (z := .bool false) (by kernel_rfl) (fun _ _ _ => .lst (reps_v [.bool false])) (by decide) rfl
  · cases h; exact zero_of (z := .int .u8 0) (by kernel_rfl) (fun _ _ _ => @Cells.ints _ _ _ .u8 [0]) (by decide) rfl
  · cases h; exact zero_of (z := .string ⟨#[]⟩) (by kernel_rfl) (fun _ _ _ => .lst (reps_v [.string ⟨#[]⟩])) (by decide) rfl
  · cases h; exact zero_of (z := .int .u64 0) (by kernel_rfl) (fun _ _ _ => @Cells.ints _ _ _ .u64 [0]) (by decide) rfl
  · cases h; exact zero_of (z := .int .i32 0) (by kernel_rfl) (fun _ _ _ => @Cells.ints _ _ _ .i32 [0]) (by decide) rfl
  · cases h; exact zero_of (z := .slice none 0 0) (by kernel_rfl) (fun _ _ _ => .lst (reps_v [.slice none 0 0])) (by decide) rfl
  · cases h; exact zero_of (z := .slice none 0 0) (by kernel_rfl) (fun _ _ _ => .lst (reps_v [.slice none 0 0])) (by decide) rfl
  · cases h; exact zero_of (z := .agg #[.int .i64 0, .int .i64 0, .int .i64 0, .int .i64 0, .bool false]) (by kernel_rfl) (fun _ _ _ => .lst (reps_v [.int .i64 0, .int .i64 0, .int .i64 0, .int .i64 0, .bool false])) (by decide) rfl
  · cases h; exact zero_of (z := .agg #[.int .i64 0, .int .i64 0, .int .i64 0, .int .i64 0, .bool false]) (by kernel_rfl) (fun _ _ _ => .lst (reps_v [.int .i64 0, .int .i64 0, .int .i64 0, .int .i64 0, .bool false])) (by decide) rfl
  · cases h; exact zero_of (z := .int .i64 0) (by kernel_rfl) (fun _ _ _ => @Cells.ints _ _ _ .i64 [0]) (by decide) rfl
  · cases h; exact zero_of (z := .slice none 0 0) (by kernel_rfl) (fun _ _ _ => .lst (reps_v [.slice none 0 0])) (by decide) rfl
  · cases h; exact zero_of (z := .agg #[.int .i64 0, .int .i64 0]) (by kernel_rfl) (fun _ _ _ => .lst (reps_v [.int .i64 0, .int .i64 0])) (by decide) rfl
  · cases h; exact zero_of (z := .agg #[.int .i64 0, .int .i64 0]) (by kernel_rfl) (fun _ _ _ => .lst (reps_v [.int .i64 0, .int .i64 0])) (by decide) rfl
  · cases h; exact zero_of (z := .pointer none) (by kernel_rfl) (fun _ _ _ => .lst (reps_v [.pointer none])) (by decide) rfl
  · cases h; exact zero_of (z := .pointer none) (by kernel_rfl) (fun _ _ _ => .lst (reps_v [.pointer none])) (by decide) rfl
  · cases h; exact zero_of (z := .pointer none) (by kernel_rfl) (fun _ _ _ => .lst (reps_v [.pointer none])) (by decide) rfl
  · cases h; exact zero_of (z := .pointer none) (by kernel_rfl) (fun _ _ _ => .lst (reps_v [.pointer none])) (by decide) rfl
  · cases h; exact zero_of (z := .agg #[.int .i64 0, .int .i64 0, .bool false]) (by kernel_rfl) (fun _ _ _ => .lst (reps_v [.int .i64 0, .int .i64 0, .bool false])) (by decide) rfl
  · cases h; exact zero_of (z := .agg #[.int .i64 0, .int .i64 0, .bool false]) (by kernel_rfl) (fun _ _ _ => .lst (reps_v [.int .i64 0, .int .i64 0, .bool false])) (by decide) rfl
  · cases h; exact zero_of (z := .slice none 0 0) (by kernel_rfl) (fun _ _ _ => .lst (reps_v [.slice none 0 0])) (by decide) rfl
  · cases h; exact zero_of (z := .slice none 0 0) (by kernel_rfl) (fun _ _ _ => .lst (reps_v [.slice none 0 0])) (by decide) rfl
  · cases h; exact zero_of (z := .slice none 0 0) (by kernel_rfl) (fun _ _ _ => .lst (reps_v [.slice none 0 0])) (by decide) rfl
  · cases h; exact zero_of (z := .pointer none) (by kernel_rfl) (fun _ _ _ => .lst (reps_v [.pointer none])) (by decide) rfl
  · cases h; exact zero_of (z := .slice none 0 0) (by kernel_rfl) (fun _ _ _ => .lst (reps_v [.slice none 0 0])) (by decide) rfl
  · cases h; exact zero_of (z := .slice none 0 0) (by kernel_rfl) (fun _ _ _ => .lst (reps_v [.slice none 0 0])) (by decide) rfl
  · cases h; exact zero_of (z := .slice none 0 0) (by kernel_rfl) (fun _ _ _ => .lst (reps_v [.slice none 0 0])) (by decide) rfl
  · cases h; exact zero_of (z := .agg #[.slice none 0 0, .slice none 0 0]) (by kernel_rfl) (fun _ _ _ => .lst (reps_v [.slice none 0 0, .slice none 0 0])) (by decide) rfl
  · cases h; exact zero_of (z := .agg #[.slice none 0 0, .slice none 0 0]) (by kernel_rfl) (fun _ _ _ => .lst (reps_v [.slice none 0 0, .slice none 0 0])) (by decide) rfl
  · cases h; exact zero_of (z := .slice none 0 0) (by kernel_rfl) (fun _ _ _ => .lst (reps_v [.slice none 0 0])) (by decide) rfl
  · cases h; exact zero_of (z := .agg #[.int .i64 0, .int .i64 0, .int .i64 0, .slice none 0 0]) (by kernel_rfl) (fun _ _ _ => .lst (reps_v [.int .i64 0, .int .i64 0, .int .i64 0, .slice none 0 0])) (by decide) rfl
  · cases h; exact zero_of (z := .agg #[.int .i64 0, .int .i64 0, .int .i64 0, .slice none 0 0]) (by kernel_rfl) (fun _ _ _ => .lst (reps_v [.int .i64 0, .int .i64 0, .int .i64 0, .slice none 0 0])) (by decide) rfl
  · cases h; exact zero_of (z := .agg #[.int .i64 0, .slice none 0 0]) (by kernel_rfl) (fun _ _ _ => .lst (reps_v [.int .i64 0, .slice none 0 0])) (by decide) rfl
  · cases h; exact zero_of (z := .agg #[.int .i64 0, .slice none 0 0]) (by kernel_rfl) (fun _ _ _ => .lst (reps_v [.int .i64 0, .slice none 0 0])) (by decide) rfl
  · cases h; exact zero_of (z := .agg #[.int .i64 0, .int .u8 0, .slice none 0 0, .int .i64 0, .slice none 0 0]) (by kernel_rfl) (fun _ _ _ => .lst (reps_v [.int .i64 0, .int .u8 0, .slice none 0 0, .int .i64 0, .slice none 0 0])) (by decide) rfl
  · cases h; exact zero_of (z := .agg #[.int .i64 0, .int .u8 0, .slice none 0 0, .int .i64 0, .slice none 0 0]) (by kernel_rfl) (fun _ _ _ => .lst (reps_v [.int .i64 0, .int .u8 0, .slice none 0 0, .int .i64 0, .slice none 0 0])) (by decide) rfl
  · cases h; exact zero_of (z := .int .u64 0) (by kernel_rfl) (fun _ _ _ => @Cells.ints _ _ _ .u64 [0]) (by decide) rfl
  · cases h; exact zero_of (z := .int .u32 0) (by kernel_rfl) (fun _ _ _ => @Cells.ints _ _ _ .u32 [0]) (by decide) rfl
  · cases h; exact zero_of (z := .agg #[.slice none 0 0, .int .i64 0, .int .i64 0, .int .u32 0]) (by kernel_rfl) (fun _ _ _ => .lst (reps_v [.slice none 0 0, .int .i64 0, .int .i64 0, .int .u32 0])) (by decide) rfl
  · cases h; exact zero_of (z := .agg #[.slice none 0 0, .int .i64 0, .int .i64 0, .int .u32 0]) (by kernel_rfl) (fun _ _ _ => .lst (reps_v [.slice none 0 0, .int .i64 0, .int .i64 0, .int .u32 0])) (by decide) rfl
  · cases h; exact zero_of (z := .slice none 0 0) (by kernel_rfl) (fun _ _ _ => .lst (reps_v [.slice none 0 0])) (by decide) rfl
  · cases h; exact zero_of (z := .agg #[.slice none 0 0, .slice none 0 0, .slice none 0 0, .int .i64 0, .int .i64 0, .int .i64 0, .int .i64 0]) (by kernel_rfl) (fun _ _ _ => .lst (reps_v [.slice none 0 0, .slice none 0 0, .slice none 0 0, .int .i64 0, .int .i64 0, .int .i64 0, .int .i64 0])) (by decide) rfl
  · cases h; exact zero_of (z := .agg #[.slice none 0 0, .slice none 0 0, .slice none 0 0, .int .i64 0, .int .i64 0, .int .i64 0, .int .i64 0]) (by kernel_rfl) (fun _ _ _ => .lst (reps_v [.slice none 0 0, .slice none 0 0, .slice none 0 0, .int .i64 0, .int .i64 0, .int .i64 0, .int .i64 0])) (by decide) rfl
  · cases h; exact zero_of (z := .agg #[.int .i64 0, .int .i64 0, .int .i64 0, .int .i64 0, .bool false, .pointer none, .int .i64 0]) (by kernel_rfl) (fun _ _ _ => .lst (reps_v [.int .i64 0, .int .i64 0, .int .i64 0, .int .i64 0, .bool false, .pointer none, .int .i64 0])) (by decide) rfl
  · cases h; exact zero_of (z := .agg #[.int .i64 0, .int .i64 0, .int .i64 0, .int .i64 0, .bool false, .pointer none, .int .i64 0]) (by kernel_rfl) (fun _ _ _ => .lst (reps_v [.int .i64 0, .int .i64 0, .int .i64 0, .int .i64 0, .bool false, .pointer none, .int .i64 0])) (by decide) rfl
  · cases h; exact zero_of (z := .agg #[.int .i64 0, .int .i64 0, .int .i64 0, .int .i64 0, .bool false, .pointer none]) (by kernel_rfl) (fun _ _ _ => .lst (reps_v [.int .i64 0, .int .i64 0, .int .i64 0, .int .i64 0, .bool false, .pointer none])) (by decide) rfl
  · cases h; exact zero_of (z := .agg #[.int .i64 0, .int .i64 0, .int .i64 0, .int .i64 0, .bool false, .pointer none]) (by kernel_rfl) (fun _ _ _ => .lst (reps_v [.int .i64 0, .int .i64 0, .int .i64 0, .int .i64 0, .bool false, .pointer none])) (by decide) rfl
  · cases h; exact zero_of (z := .map none) (by kernel_rfl) (fun _ _ _ => .lst (reps_v [.map none])) (by decide) rfl
  · cases h; exact zero_of (z := .slice none 0 0) (by kernel_rfl) (fun _ _ _ => .lst (reps_v [.slice none 0 0])) (by decide) rfl
  · cases h; exact zero_of (z := .agg #[.pointer none, .map none, .slice none 0 0, .bool false]) (by kernel_rfl) (fun _ _ _ => .lst (reps_v [.pointer none, .map none, .slice none 0 0, .bool false])) (by decide) rfl
  · cases h; exact zero_of (z := .agg #[.pointer none, .map none, .slice none 0 0, .bool false]) (by kernel_rfl) (fun _ _ _ => .lst (reps_v [.pointer none, .map none, .slice none 0 0, .bool false])) (by decide) rfl
  · cases h; exact zero_of (z := .agg #[.int .i64 0, .slice none 0 0]) (by kernel_rfl) (fun _ _ _ => .lst (reps_v [.int .i64 0, .slice none 0 0])) (by decide) rfl
  · cases h; exact zero_of (z := .agg #[.int .i64 0, .slice none 0 0]) (by kernel_rfl) (fun _ _ _ => .lst (reps_v [.int .i64 0, .slice none 0 0])) (by decide) rfl
  · cases h; exact zero_of (z := .agg #[.pointer none, .int .i64 0, .int .i64 0, .int .u64 0]) (by kernel_rfl) (fun _ _ _ => .lst (reps_v [.pointer none, .int .i64 0, .int .i64 0, .int .u64 0])) (by decide) rfl
  · cases h; exact zero_of (z := .agg #[.pointer none, .int .i64 0, .int .i64 0, .int .u64 0]) (by kernel_rfl) (fun _ _ _ => .lst (reps_v [.pointer none, .int .i64 0, .int .i64 0, .int .u64 0])) (by decide) rfl
  · cases h; exact zero_of (z := .agg #[.bool false, .int .i64 0, .slice none 0 0]) (by kernel_rfl) (fun _ _ _ => .lst (reps_v [.bool false, .int .i64 0, .slice none 0 0])) (by decide) rfl
  · cases h; exact zero_of (z := .agg #[.bool false, .int .i64 0, .slice none 0 0]) (by kernel_rfl) (fun _ _ _ => .lst (reps_v [.bool false, .int .i64 0, .slice none 0 0])) (by decide) rfl
  · cases h; exact zero_of (z := .int .u16 0) (by kernel_rfl) (fun _ _ _ => @Cells.ints _ _ _ .u16 [0]) (by decide) rfl
  · cases h; exact zero_of (z := .agg (List.replicate 512 (.int .u8 0)).toArray) (by kernel_rfl) (fun _ _ _ => zero_arr .u8 512) (zero_arr1 .u8 512) (zero_arr2 .u8 512)
  · cases h; exact zero_of (z := .agg (List.replicate 512 (.int .u8 0)).toArray) (by kernel_rfl) (fun _ _ _ => zero_arr .u8 512) (zero_arr1 .u8 512) (zero_arr2 .u8 512)
  · cases h; exact zero_of (z := .slice none 0 0) (by kernel_rfl) (fun _ _ _ => .lst (reps_v [.slice none 0 0])) (by decide) rfl
  · cases h; exact zero_of (z := .int .u64 0) (by kernel_rfl) (fun _ _ _ => @Cells.ints _ _ _ .u64 [0]) (by decide) rfl
  · cases h; exact zero_of (z := .int .i64 0) (by kernel_rfl) (fun _ _ _ => @Cells.ints _ _ _ .i64 [0]) (by decide) rfl
  · cases h; exact zero_of (z := .int .u64 0) (by kernel_rfl) (fun _ _ _ => @Cells.ints _ _ _ .u64 [0]) (by decide) rfl
  · cases h; exact zero_of (z := .pointer none) (by kernel_rfl) (fun _ _ _ => .lst (reps_v [.pointer none])) (by decide) rfl
  · cases h; exact zero_of (z := .pointer none) (by kernel_rfl) (fun _ _ _ => .lst (reps_v [.pointer none])) (by decide) rfl
  · cases h; exact zero_of (z := .pointer none) (by kernel_rfl) (fun _ _ _ => .lst (reps_v [.pointer none])) (by decide) rfl
  · cases h; exact zero_of (z := .agg #[.int .u64 0, .int .u64 0, .int .u32 0, .int .u8 0, .int .u8 0, .int .u8 0, .int .u8 0, .nilFunc, .pointer none, .int .i32 0, .int .i32 0]) (by kernel_rfl) (fun _ _ _ => .lst (reps_v [.int .u64 0, .int .u64 0, .int .u32 0, .int .u8 0, .int .u8 0, .int .u8 0, .int .u8 0, .nilFunc, .pointer none, .int .i32 0, .int .i32 0])) (by decide) rfl
  · cases h
def tab : Tab Try.prog := ⟨td, ti, td_ok, ti_ok⟩
end Go.Proofs.Ytcfmlnddmpiemaa.Sx.Tb


namespace Go.Proofs.Ytcfmlnddmpiemaa.Sx
def p3 : Plans := [(46, .L [(0, []), (1, []), (2, []), (3, []), (4, []), (5, []), (6, []), (7, []), (8, []), (9, []), (10, []), (11, []), (12, []), (13, []), (14, []), (15, []), (16, [10, 11, 12, 13, 14]), (17, []), (18, [])]), (51, .L [(0, []), (1, []), (2, []), (3, []), (4, []), (5, []), (6, []), (7, []), (8, []), (9, []), (10, []), (11, []), (12, []), (13, []), (14, []), (15, []), (16, []), (17, []), (18, [])])]
def p4 : Plans := [(28, .L [(0, []), (1, []), (2, []), (3, []), (4, []), (5, []), (6, []), (7, []), (8, [])]), (52, .L [(0, []), (1, []), (2, []), (3, []), (4, []), (5, []), (6, []), (7, []), (8, []), (9, []), (10, []), (11, []), (12, []), (13, []), (14, [])]), (57, .L [(0, []), (1, []), (2, []), (3, []), (4, []), (5, []), (6, []), (7, []), (8, []), (9, [])])]
def p5 : Plans := [(22, .L [(0, []), (1, []), (2, []), (3, []), (4, []), (5, []), (6, []), (7, []), (8, []), (10, []), (11, []), (12, []), (13, []), (14, []), (15, []), (9, [10, 11, 12, 13, 14, 15]), (16, []), (17, [])]), (35, .L [(0, []), (1, []), (4, []), (5, []), (2, [4, 5]), (3, []), (6, [3]), (7, []), (8, []), (9, [])])]
def p6 : Plans := [(1, .L [(0, []), (1, []), (2, []), (3, []), (4, []), (5, []), (6, []), (7, []), (8, [0, 1, 2, 3, 4, 5, 6, 7]), (9, []), (10, []), (11, []), (12, [])]), (40, .L [(0, []), (1, []), (2, []), (3, []), (4, [])]), (46, .L [(0, []), (1, []), (2, []), (3, []), (4, []), (5, []), (6, []), (7, []), (8, []), (9, []), (10, []), (11, []), (12, []), (13, [])]), (47, .L [(0, []), (1, []), (2, []), (3, []), (4, []), (5, [])])]
def p18 : Plans := [(6, .L [(0, []), (3, []), (4, []), (5, []), (6, []), (1, [3, 4, 5, 6]), (2, []), (7, [2]), (8, [])]), (12, .L [(0, []), (1, []), (2, []), (3, []), (4, []), (5, []), (6, []), (7, []), (8, []), (9, []), (10, []), (11, []), (12, [])])]
def p24 : Plans := [(9, .L [(0, []), (1, []), (2, []), (3, []), (4, []), (5, []), (6, []), (7, []), (8, []), (9, []), (10, []), (11, []), (12, [])]), (10, .L [(0, []), (1, []), (2, []), (3, []), (4, []), (5, []), (6, []), (7, []), (8, []), (9, []), (10, []), (11, []), (12, []), (13, []), (14, [])])]
def p26 : Plans := [(12, .L [(0, []), (1, []), (2, []), (3, []), (4, []), (5, []), (6, [])]), (13, .L [(0, []), (1, []), (2, []), (3, []), (4, []), (5, []), (6, []), (7, [])]), (14, .L [(0, []), (1, []), (2, []), (3, []), (4, []), (5, []), (6, []), (7, [])])]
def p66 : Plans := [(13, .L [(0, []), (1, []), (2, []), (3, []), (4, []), (5, []), (6, []), (7, []), (8, []), (9, []), (10, []), (11, []), (12, [0, 1, 2, 3]), (13, []), (14, []), (15, [])])]
def p68 : Plans := [(12, .L [(0, []), (1, []), (2, []), (3, []), (4, []), (5, []), (6, [0, 1, 2, 3, 4]), (7, [0]), (8, []), (9, []), (10, [])]), (13, .L [(0, []), (1, []), (2, []), (3, []), (4, []), (5, []), (6, [0]), (7, []), (8, []), (9, [])]), (14, .L [(0, []), (1, []), (2, []), (3, []), (4, []), (5, []), (6, []), (7, [])])]
def p70 : Plans := [(12, .L [(0, []), (1, []), (2, []), (3, []), (4, []), (5, []), (6, []), (7, []), (8, []), (9, []), (10, []), (11, [])]), (19, .L [(0, []), (1, []), (2, []), (3, []), (4, []), (5, []), (6, []), (7, []), (8, []), (9, []), (10, []), (11, []), (12, []), (13, []), (14, []), (15, [0, 1, 2, 3, 4, 5, 6, 7]), (16, []), (17, [])])]
def p71 : Plans := [(6, .L [(0, []), (1, []), (2, []), (3, []), (4, []), (5, []), (6, []), (7, []), (8, []), (9, [])])]
def p72 : Plans := [(6, .L [(0, []), (1, []), (2, []), (3, []), (4, []), (5, []), (6, [])])]
def p79 : Plans := [(15, .L [(0, []), (1, []), (2, []), (3, [])])]
def p80 : Plans := [(3, .L [(0, []), (1, []), (2, []), (3, []), (4, []), (5, []), (6, []), (7, []), (8, []), (9, []), (10, []), (11, []), (12, []), (13, []), (14, []), (15, []), (16, []), (17, [])])]
def p82 : Plans := [(4, .L [(0, []), (1, []), (2, []), (3, []), (4, []), (5, []), (6, []), (7, []), (8, []), (9, []), (10, []), (11, []), (12, []), (13, []), (14, []), (15, [])])]
def p94 : Plans := [(4, .L [(0, []), (1, []), (2, []), (3, []), (4, []), (5, []), (6, []), (7, []), (8, []), (9, []), (10, []), (11, []), (12, []), (13, []), (14, []), (15, []), (16, []), (17, []), (18, []), (19, []), (20, []), (21, []), (22, []), (23, []), (24, []), (25, []), (26, []), (27, []), (28, []), (29, []), (30, []), (31, []), (32, []), (33, [])])]
def p95 : Plans := [(1, .L [(0, []), (1, []), (2, []), (3, []), (4, []), (5, []), (6, []), (7, []), (8, []), (9, []), (10, []), (11, []), (12, []), (13, []), (14, []), (15, []), (16, []), (17, []), (18, []), (19, []), (20, []), (21, []), (22, []), (23, []), (24, []), (25, []), (26, []), (27, []), (28, []), (29, []), (30, []), (31, []), (32, []), (33, []), (34, []), (35, []), (36, []), (37, []), (38, []), (39, [])])]
def p97 : Plans := [(3, .L [(0, []), (1, []), (2, []), (3, []), (4, []), (5, []), (6, []), (7, []), (8, [0, 1, 2, 3, 4, 5, 6, 7]), (9, []), (10, [])])]
end Go.Proofs.Ytcfmlnddmpiemaa.Sx

