/- What the Go functions of this text come to, laid by a program of this session (wip/tools/pp.py) out of the translation: for every input. -/
import Derived.Test.YtjhijdkliepkpaaPPlcx0
import Derived.Test.YtjhijdkliepkpaaPPlcx1
import Derived.Test.YtjhijdkliepkpaaPPlcx2
import Derived.Test.YtjhijdkliepkpaaPPlcx3
import Derived.Test.YtjhijdkliepkpaaPPlcx5
import Derived.Test.YtjhijdkliepkpaaPPlcx6
namespace Go.Proofs.Ytjhijdkliepkpaa.PPlc
open Go.RowKit Go.Proofs.YtjhijdkliepkpaaW.PrintWords Go.Proofs.YtjhijdkliepkpaaW.PrintLast Go.Proofs.YtjhijdkliepkpaaW.PrintMore
attribute [local go_sem] max2_int min2_int max_two min_two max_three min_three max_four min_four   -- for this text's walks alone
set_option linter.unusedVariables false
set_option linter.unusedSimpArgs false

attribute [local go_sem high] eqA74
/-! ### fettlelaw07_HeaderPlaces: function 11 -/
def fettlelaw07_HeaderPlaces.j0 : Nat → Int → Bool → Int → Int → Int → Int → Bool → Int → Int → Int → Int → Int → Int → Int → Int → Option (Bool)
 | 0, _, _, _, _, _, _, _, _, _, _, _, _, _, _, _ => none
 | k + 1, x4, x56, x178000, x178001, x178002, x178003, x178004, x188000, x188001, x189000, x189001, x190000, x190001, x191000, x191001 => if x56 = true then (none) else ((fettleref07_Head_At.f k x178000 x178001 x178002 x178003 x178004 1).bind fun t200 => ((fettleref07_Head_At.f k x178000 x178001 x178002 x178003 x178004 2).bind fun t201 => (if (x188000 == (wrap64 (x4 * t200)) && (x188001 == (wrap64 (x4 * t201)))) = true then ((fettleref07_Head_At.f k x178000 x178001 x178002 x178003 x178004 2).bind fun t202 => ((fettleref07_Head_At.f k x178000 x178001 x178002 x178003 x178004 3).bind fun t203 => (if (x189000 == (wrap64 (x4 * t202)) && (x189001 == (wrap64 (x4 * t203)))) = true then ((fettleref07_Head_At.f k x178000 x178001 x178002 x178003 x178004 3).bind fun t204 => ((fettleref07_Head_At.f k x178000 x178001 x178002 x178003 x178004 4).bind fun t205 => (if (x190000 == (wrap64 (x4 * t204)) && (x190001 == (wrap64 (x4 * t205)))) = true then ((fettleref07_Head_At.f k x178000 x178001 x178002 x178003 x178004 4).bind fun t206 => ((fettleref07_Head_At.f k x178000 x178001 x178002 x178003 x178004 5).bind fun t207 => (some (x191000 == (wrap64 (x4 * t206)) && (x191001 == (wrap64 (x4 * t207))))))) else (none)))) else (none)))) else (none))))
def fettlelaw07_HeaderPlaces.f (k : Nat) (a0_0 : Int) (a0_1 : Int) (a0_2 : Int) (a0_3 : Int) (a0_4 : Bool) : Option (Bool) := (fettlelaw07_of.f a0_0 a0_1 a0_2 a0_3 a0_4).bind fun bt172 => ((fettleref07_Head_Cluster.f k bt172.1 bt172.2.1 bt172.2.2.1 bt172.2.2.2.1 bt172.2.2.2.2).bind fun t178 => ((header_Header_JournalAt.f a0_0 a0_1 a0_2 a0_3 a0_4).bind fun bt179 => ((header_Header_RefsAt.f a0_0 a0_1 a0_2 a0_3 a0_4).bind fun bt181 => ((header_Header_SnapsAt.f a0_0 a0_1 a0_2 a0_3 a0_4).bind fun bt183 => ((header_Header_TopAt.f a0_0 a0_1 a0_2 a0_3 a0_4).bind fun bt185 => ((fettlelaw07_laid.f k).bind fun t191 => (if t191 = true then ((header_Header_Cluster.f a0_0 a0_1 a0_2 a0_3 a0_4).bind fun t192 => (if t192 = t178 then ((header_Header_Entries.f a0_0 a0_1 a0_2 a0_3 a0_4).bind fun t193 => (if t193 = (wrap64 (Int.tdiv t178 8)) then ((header_Header_Guest.f a0_0 a0_1 a0_2 a0_3 a0_4).bind fun t194 => ((fettleref07_Head_Guest.f k bt172.1 bt172.2.1 bt172.2.2.1 bt172.2.2.2.1 bt172.2.2.2.2).bind fun t195 => (if t194 = t195 then ((header_Header_First.f a0_0 a0_1 a0_2 a0_3 a0_4).bind fun t196 => ((fettleref07_Head_At.f k bt172.1 bt172.2.1 bt172.2.2.1 bt172.2.2.2.1 bt172.2.2.2.2 5).bind fun t197 => (if t196 = t197 then ((header_Header_Least.f a0_0 a0_1 a0_2 a0_3 a0_4).bind fun t198 => ((fettleref07_Head_Least.f k bt172.1 bt172.2.1 bt172.2.2.1 bt172.2.2.2.1 bt172.2.2.2.2).bind fun t199 => (fettlelaw07_HeaderPlaces.j0 k t178 (t198 != t199) bt172.1 bt172.2.1 bt172.2.2.1 bt172.2.2.2.1 bt172.2.2.2.2 bt179.1 bt179.2 bt181.1 bt181.2 bt183.1 bt183.2 bt185.1 bt185.2))) else (none)))) else (none)))) else (none))) else (none))) else (none))))))))
theorem fettlelaw07_HeaderPlaces.mono_l : ∀ k, (∀ y0 y1 y2 y3 y4 y5 y6 y7 y8 y9 y10 y11 y12 y13 y14, LeO (fettlelaw07_HeaderPlaces.j0 k y0 y1 y2 y3 y4 y5 y6 y7 y8 y9 y10 y11 y12 y13 y14) (fettlelaw07_HeaderPlaces.j0 (k + 1) y0 y1 y2 y3 y4 y5 y6 y7 y8 y9 y10 y11 y12 y13 y14))
 | 0 => fun _ _ _ _ _ _ _ _ _ _ _ _ _ _ _ r h => by simp [fettlelaw07_HeaderPlaces.j0] at h
 | k + 1 => by
  have ih0 := fettlelaw07_HeaderPlaces.mono_l k
  ·intro y0 y1 y2 y3 y4 y5 y6 y7 y8 y9 y10 y11 y12 y13 y14
   unfold fettlelaw07_HeaderPlaces.j0
   repeat' first
   | (with_reducible exact ih0 _ _ _ _ _ _ _ _ _ _ _ _ _ _ _)
   | (with_reducible exact fettlelaw07_laid.mono _)
   | (with_reducible exact fettleref07_Head_At.mono _ _ _ _ _ _ _)
   | (with_reducible exact fettleref07_Head_Cluster.mono _ _ _ _ _ _)
   | (with_reducible exact fettleref07_Head_Guest.mono _ _ _ _ _ _)
   | (with_reducible exact fettleref07_Head_Least.mono _ _ _ _ _ _)
   | (with_reducible exact LeO.refl _)
   | (with_reducible exact LeO.none _)
   | (with_reducible refine LeO.ite ?_ ?_)
   | (with_reducible refine LeO.bind ?_ (fun _ => ?_))
   | exact ih0 _ _ _ _ _ _ _ _ _ _ _ _ _ _ _
   | exact fettlelaw07_laid.mono _
   | exact fettleref07_Head_At.mono _ _ _ _ _ _ _
   | exact fettleref07_Head_Cluster.mono _ _ _ _ _ _
   | exact fettleref07_Head_Guest.mono _ _ _ _ _ _
   | exact fettleref07_Head_Least.mono _ _ _ _ _ _
   | exact LeO.none _
   | refine LeO.ite ?_ ?_
   | refine LeO.bind ?_ (fun _ => ?_)
theorem fettlelaw07_HeaderPlaces.mono : ∀ a0 a1 a2 a3 a4 k, LeO (fettlelaw07_HeaderPlaces.f k a0 a1 a2 a3 a4) (fettlelaw07_HeaderPlaces.f (k + 1) a0 a1 a2 a3 a4) := by
 intro a0 a1 a2 a3 a4 k
 have ih0 := fettlelaw07_HeaderPlaces.mono_l k
 unfold fettlelaw07_HeaderPlaces.f
 repeat' first
   | (with_reducible exact ih0 _ _ _ _ _ _ _ _ _ _ _ _ _ _ _)
   | (with_reducible exact fettlelaw07_laid.mono _)
   | (with_reducible exact fettleref07_Head_At.mono _ _ _ _ _ _ _)
   | (with_reducible exact fettleref07_Head_Cluster.mono _ _ _ _ _ _)
   | (with_reducible exact fettleref07_Head_Guest.mono _ _ _ _ _ _)
   | (with_reducible exact fettleref07_Head_Least.mono _ _ _ _ _ _)
   | (with_reducible exact LeO.refl _)
   | (with_reducible exact LeO.none _)
   | (with_reducible refine LeO.ite ?_ ?_)
   | (with_reducible refine LeO.bind ?_ (fun _ => ?_))
   | exact ih0 _ _ _ _ _ _ _ _ _ _ _ _ _ _ _
   | exact fettlelaw07_laid.mono _
   | exact fettleref07_Head_At.mono _ _ _ _ _ _ _
   | exact fettleref07_Head_Cluster.mono _ _ _ _ _ _
   | exact fettleref07_Head_Guest.mono _ _ _ _ _ _
   | exact fettleref07_Head_Least.mono _ _ _ _ _ _
   | exact LeO.none _
   | refine LeO.ite ?_ ?_
   | refine LeO.bind ?_ (fun _ => ?_)
def fettlelaw07_HeaderPlaces.T3 : Bool × List (List Nat × List Nat) := (true, [([], []), ([0], [0]), ([], []), ([2, 1], [2]), ([], []), ([4, 3], [4]), ([], []), ([6, 5], [6]), ([], []), ([], []), ([], []), ([], []), ([8, 1, 7, 0, 1, 8, 9, 10, 11], [1, 8]), ([9, 3, 12, 0, 1, 2, 3, 8, 9, 10, 11, 12], [3, 9]), ([10, 5, 13, 0, 1, 2, 3, 4, 5, 8, 9, 10, 11, 12, 13], [5, 10]), ([11, 7, 14, 0, 1, 2, 3, 4, 5, 6, 7, 8, 9, 10, 11, 12, 13, 14], [7, 11])])
def fettlelaw07_HeaderPlaces.B3 : List Nat := [0, 1, 0, 7, 0, 31, 0, 127, 0, 0, 0, 0, 4095, 8191, 16383, 32767]
theorem fettlelaw07_HeaderPlaces.tab3 : rtab .any (opsOf Try.f11 3) = fettlelaw07_HeaderPlaces.T3 := by kernel_rfl
theorem fettlelaw07_HeaderPlaces.bits3 : waitsOk fettlelaw07_HeaderPlaces.T3.2 fettlelaw07_HeaderPlaces.B3 = true := by kernel_rfl
def fettlelaw07_HeaderPlaces.T4 : Bool × List (List Nat × List Nat) := (true, [([], []), ([0], [0]), ([1, 0], [1]), ([2], [2]), ([3, 2, 2], [2, 3]), ([2], [2]), ([4, 5, 2], [2, 4, 5]), ([2, 6], [2, 6]), ([7, 4], [7]), ([8], [8]), ([9, 8, 8], [8, 9]), ([8], [8]), ([11, 8], [8, 11]), ([10, 12, 8], [8, 10, 12]), ([8, 13], [8, 13]), ([14, 10], [14]), ([15], [15]), ([16, 15, 15], [15, 16]), ([15], [15]), ([18, 17, 15], [15, 18]), ([17, 19, 15], [15, 17, 19]), ([15, 20], [15, 20]), ([21, 19], [21]), ([22], [22]), ([23, 22, 22], [22, 23]), ([22], [22]), ([25, 24, 22], [22, 25]), ([24, 26, 22], [22, 24, 26]), ([22, 27], [22, 27]), ([28, 26], [28]), ([29], [29]), ([30, 29, 29], [29, 30]), ([29], [29]), ([32, 31, 29], [29, 32]), ([31, 33, 29], [29, 31, 33]), ([29, 34], [29, 34])])
def fettlelaw07_HeaderPlaces.B4 : List Nat := [0, 1, 3, 7, 15, 7, 63, 127, 255, 511, 1023, 511, 2559, 8191, 16383, 32767, 65535, 131071, 65535, 524287, 1048575, 2097151, 4194303, 8388607, 16777215, 8388607, 67108863, 134217727, 268435455, 536870911, 1073741823, 2147483647, 1073741823, 8589934591, 17179869183, 34359738367]
theorem fettlelaw07_HeaderPlaces.tab4 : rtab .any (opsOf Try.f11 4) = fettlelaw07_HeaderPlaces.T4 := by kernel_rfl
theorem fettlelaw07_HeaderPlaces.bits4 : waitsOk fettlelaw07_HeaderPlaces.T4.2 fettlelaw07_HeaderPlaces.B4 = true := by kernel_rfl
def fettlelaw07_HeaderPlaces.T6 : Bool × List (List Nat × List Nat) := (true, [([], []), ([], []), ([], []), ([2], [2]), ([1, 3], [1, 3]), ([], []), ([], []), ([6, 3], [6]), ([5, 7], [5, 7]), ([4, 8], [4, 8]), ([0, 9], [0, 9]), ([10, 7], [10]), ([11], [11]), ([11], [11]), ([11], [11]), ([14, 11, 11], [11, 14]), ([13, 15, 11], [11, 13, 15]), ([11], [11]), ([11], [11]), ([18, 15, 11], [11, 18]), ([17, 19, 11], [11, 17, 19]), ([16, 20, 11], [11, 16, 20]), ([12, 21, 11], [11, 12, 21]), ([11, 22], [11, 22]), ([23, 19], [23]), ([24], [24]), ([24], [24]), ([24], [24]), ([27, 24, 24], [24, 27]), ([26, 28, 24], [24, 26, 28]), ([24], [24]), ([24], [24]), ([31, 28, 24], [24, 31]), ([30, 32, 24], [24, 30, 32]), ([29, 33, 24], [24, 29, 33]), ([25, 34, 24], [24, 25, 34]), ([24, 35], [24, 35]), ([36, 32], [36]), ([37], [37]), ([37], [37]), ([37], [37]), ([40, 37, 37], [37, 40]), ([39, 41, 37], [37, 39, 41]), ([37], [37]), ([37], [37]), ([44, 41, 37], [37, 44]), ([43, 45, 37], [37, 43, 45]), ([42, 46, 37], [37, 42, 46]), ([38, 47, 37], [37, 38, 47]), ([37, 48], [37, 48]), ([49, 45, 0, 1, 2, 3, 4, 5, 6, 7, 8, 9, 10, 11, 12, 13, 14, 15, 16, 17, 18, 19, 20, 21, 22, 23, 24, 25, 26, 27, 28, 29, 30, 31, 32, 33, 34, 35, 36, 37, 38, 39, 40, 41, 42, 43, 44, 45, 46, 47, 48, 49], [49])])
def fettlelaw07_HeaderPlaces.B6 : List Nat := [0, 0, 0, 4, 14, 0, 0, 76, 236, 510, 1023, 2047, 4095, 4095, 4095, 20479, 61439, 4095, 4095, 315391, 970751, 2093055, 4194303, 8388607, 16777215, 33554431, 33554431, 33554431, 167772159, 503316479, 33554431, 33554431, 2583691263, 7952400383, 17146314751, 34359738367, 68719476735, 137438953471, 274877906943, 274877906943, 274877906943, 1374389534719, 4123168604159, 274877906943, 274877906943, 21165598834687, 65146063945727, 140462610448383, 281474976710655, 562949953421311, 1125899906842623]
theorem fettlelaw07_HeaderPlaces.tab6 : rtab .any (opsOf Try.f11 6) = fettlelaw07_HeaderPlaces.T6 := by kernel_rfl
theorem fettlelaw07_HeaderPlaces.bits6 : waitsOk fettlelaw07_HeaderPlaces.T6.2 fettlelaw07_HeaderPlaces.B6 = true := by kernel_rfl
set_option maxHeartbeats 8000000 in
set_option maxRecDepth 100000 in
theorem fettlelaw07_HeaderPlaces.calls (k : Nat) (a0_0 : Int) (a0_1 : Int) (a0_2 : Int) (a0_3 : Int) (a0_4 : Bool) (r : Bool) (w : World) (h : fettlelaw07_HeaderPlaces.f k a0_0 a0_1 a0_2 a0_3 a0_4 = some r) :
  Calls Try.prog 11 #[.agg #[.int .i64 a0_0, .int .i64 a0_1, .int .i64 a0_2, .int .i64 a0_3, .bool a0_4]] w fun e w' => e = .returned (.bool r) ∧ Below w.heap.size w w' := by
 have hu69 := Try.underlying69
 have hu70 := Try.underlying70
 have hu74 := Try.underlying74
 have HB := Aside0.mk (Below.refl w.heap.size w)
 have H : ((fettlelaw07_of.f a0_0 a0_1 a0_2 a0_3 a0_4).bind fun bt172 => ((fettleref07_Head_Cluster.f k bt172.1 bt172.2.1 bt172.2.2.1 bt172.2.2.2.1 bt172.2.2.2.2).bind fun t178 => ((header_Header_JournalAt.f a0_0 a0_1 a0_2 a0_3 a0_4).bind fun bt179 => ((header_Header_RefsAt.f a0_0 a0_1 a0_2 a0_3 a0_4).bind fun bt181 => ((header_Header_SnapsAt.f a0_0 a0_1 a0_2 a0_3 a0_4).bind fun bt183 => ((header_Header_TopAt.f a0_0 a0_1 a0_2 a0_3 a0_4).bind fun bt185 => ((fettlelaw07_laid.f k).bind fun t191 => (if t191 = true then ((header_Header_Cluster.f a0_0 a0_1 a0_2 a0_3 a0_4).bind fun t192 => (if t192 = t178 then ((header_Header_Entries.f a0_0 a0_1 a0_2 a0_3 a0_4).bind fun t193 => (if t193 = (wrap64 (Int.tdiv t178 8)) then ((header_Header_Guest.f a0_0 a0_1 a0_2 a0_3 a0_4).bind fun t194 => ((fettleref07_Head_Guest.f k bt172.1 bt172.2.1 bt172.2.2.1 bt172.2.2.2.1 bt172.2.2.2.2).bind fun t195 => (if t194 = t195 then ((header_Header_First.f a0_0 a0_1 a0_2 a0_3 a0_4).bind fun t196 => ((fettleref07_Head_At.f k bt172.1 bt172.2.1 bt172.2.2.1 bt172.2.2.2.1 bt172.2.2.2.2 5).bind fun t197 => (if t196 = t197 then ((header_Header_Least.f a0_0 a0_1 a0_2 a0_3 a0_4).bind fun t198 => ((fettleref07_Head_Least.f k bt172.1 bt172.2.1 bt172.2.2.1 bt172.2.2.2.1 bt172.2.2.2.2).bind fun t199 => (fettlelaw07_HeaderPlaces.j0 k t178 (t198 != t199) bt172.1 bt172.2.1 bt172.2.2.1 bt172.2.2.2.1 bt172.2.2.2.2 bt179.1 bt179.2 bt181.1 bt181.2 bt183.1 bt183.2 bt185.1 bt185.2))) else (none)))) else (none)))) else (none))) else (none))) else (none))))))))) = some r := h
 clear h
 replace H := Option.bind_eq_some_iff.mp H
 obtain ⟨⟨t172, t173, t174, t175, t176⟩, A20, H⟩ := H
 replace H : ((fettleref07_Head_Cluster.f k t172 t173 t174 t175 t176).bind fun t178 => ((header_Header_JournalAt.f a0_0 a0_1 a0_2 a0_3 a0_4).bind fun bt179 => ((header_Header_RefsAt.f a0_0 a0_1 a0_2 a0_3 a0_4).bind fun bt181 => ((header_Header_SnapsAt.f a0_0 a0_1 a0_2 a0_3 a0_4).bind fun bt183 => ((header_Header_TopAt.f a0_0 a0_1 a0_2 a0_3 a0_4).bind fun bt185 => ((fettlelaw07_laid.f k).bind fun t191 => (if t191 = true then ((header_Header_Cluster.f a0_0 a0_1 a0_2 a0_3 a0_4).bind fun t192 => (if t192 = t178 then ((header_Header_Entries.f a0_0 a0_1 a0_2 a0_3 a0_4).bind fun t193 => (if t193 = (wrap64 (Int.tdiv t178 8)) then ((header_Header_Guest.f a0_0 a0_1 a0_2 a0_3 a0_4).bind fun t194 => ((fettleref07_Head_Guest.f k t172 t173 t174 t175 t176).bind fun t195 => (if t194 = t195 then ((header_Header_First.f a0_0 a0_1 a0_2 a0_3 a0_4).bind fun t196 => ((fettleref07_Head_At.f k t172 t173 t174 t175 t176 5).bind fun t197 => (if t196 = t197 then ((header_Header_Least.f a0_0 a0_1 a0_2 a0_3 a0_4).bind fun t198 => ((fettleref07_Head_Least.f k t172 t173 t174 t175 t176).bind fun t199 => (fettlelaw07_HeaderPlaces.j0 k t178 (t198 != t199) t172 t173 t174 t175 t176 bt179.1 bt179.2 bt181.1 bt181.2 bt183.1 bt183.2 bt185.1 bt185.2))) else (none)))) else (none)))) else (none))) else (none))) else (none)))))))) = some r := H
 have A2 := Aside0.mk A20
 clear A20
 replace H := Option.bind_eq_some_iff.mp H
 obtain ⟨t178, A30, H⟩ := H
 replace H : ((header_Header_JournalAt.f a0_0 a0_1 a0_2 a0_3 a0_4).bind fun bt179 => ((header_Header_RefsAt.f a0_0 a0_1 a0_2 a0_3 a0_4).bind fun bt181 => ((header_Header_SnapsAt.f a0_0 a0_1 a0_2 a0_3 a0_4).bind fun bt183 => ((header_Header_TopAt.f a0_0 a0_1 a0_2 a0_3 a0_4).bind fun bt185 => ((fettlelaw07_laid.f k).bind fun t191 => (if t191 = true then ((header_Header_Cluster.f a0_0 a0_1 a0_2 a0_3 a0_4).bind fun t192 => (if t192 = t178 then ((header_Header_Entries.f a0_0 a0_1 a0_2 a0_3 a0_4).bind fun t193 => (if t193 = (wrap64 (Int.tdiv t178 8)) then ((header_Header_Guest.f a0_0 a0_1 a0_2 a0_3 a0_4).bind fun t194 => ((fettleref07_Head_Guest.f k t172 t173 t174 t175 t176).bind fun t195 => (if t194 = t195 then ((header_Header_First.f a0_0 a0_1 a0_2 a0_3 a0_4).bind fun t196 => ((fettleref07_Head_At.f k t172 t173 t174 t175 t176 5).bind fun t197 => (if t196 = t197 then ((header_Header_Least.f a0_0 a0_1 a0_2 a0_3 a0_4).bind fun t198 => ((fettleref07_Head_Least.f k t172 t173 t174 t175 t176).bind fun t199 => (fettlelaw07_HeaderPlaces.j0 k t178 (t198 != t199) t172 t173 t174 t175 t176 bt179.1 bt179.2 bt181.1 bt181.2 bt183.1 bt183.2 bt185.1 bt185.2))) else (none)))) else (none)))) else (none))) else (none))) else (none))))))) = some r := H
 have A3 := Aside0.mk A30
 clear A30
 replace H := Option.bind_eq_some_iff.mp H
 obtain ⟨⟨t179, t180⟩, A40, H⟩ := H
 replace H : ((header_Header_RefsAt.f a0_0 a0_1 a0_2 a0_3 a0_4).bind fun bt181 => ((header_Header_SnapsAt.f a0_0 a0_1 a0_2 a0_3 a0_4).bind fun bt183 => ((header_Header_TopAt.f a0_0 a0_1 a0_2 a0_3 a0_4).bind fun bt185 => ((fettlelaw07_laid.f k).bind fun t191 => (if t191 = true then ((header_Header_Cluster.f a0_0 a0_1 a0_2 a0_3 a0_4).bind fun t192 => (if t192 = t178 then ((header_Header_Entries.f a0_0 a0_1 a0_2 a0_3 a0_4).bind fun t193 => (if t193 = (wrap64 (Int.tdiv t178 8)) then ((header_Header_Guest.f a0_0 a0_1 a0_2 a0_3 a0_4).bind fun t194 => ((fettleref07_Head_Guest.f k t172 t173 t174 t175 t176).bind fun t195 => (if t194 = t195 then ((header_Header_First.f a0_0 a0_1 a0_2 a0_3 a0_4).bind fun t196 => ((fettleref07_Head_At.f k t172 t173 t174 t175 t176 5).bind fun t197 => (if t196 = t197 then ((header_Header_Least.f a0_0 a0_1 a0_2 a0_3 a0_4).bind fun t198 => ((fettleref07_Head_Least.f k t172 t173 t174 t175 t176).bind fun t199 => (fettlelaw07_HeaderPlaces.j0 k t178 (t198 != t199) t172 t173 t174 t175 t176 t179 t180 bt181.1 bt181.2 bt183.1 bt183.2 bt185.1 bt185.2))) else (none)))) else (none)))) else (none))) else (none))) else (none)))))) = some r := H
 have A4 := Aside0.mk A40
 clear A40
 replace H := Option.bind_eq_some_iff.mp H
 obtain ⟨⟨t181, t182⟩, A50, H⟩ := H
 replace H : ((header_Header_SnapsAt.f a0_0 a0_1 a0_2 a0_3 a0_4).bind fun bt183 => ((header_Header_TopAt.f a0_0 a0_1 a0_2 a0_3 a0_4).bind fun bt185 => ((fettlelaw07_laid.f k).bind fun t191 => (if t191 = true then ((header_Header_Cluster.f a0_0 a0_1 a0_2 a0_3 a0_4).bind fun t192 => (if t192 = t178 then ((header_Header_Entries.f a0_0 a0_1 a0_2 a0_3 a0_4).bind fun t193 => (if t193 = (wrap64 (Int.tdiv t178 8)) then ((header_Header_Guest.f a0_0 a0_1 a0_2 a0_3 a0_4).bind fun t194 => ((fettleref07_Head_Guest.f k t172 t173 t174 t175 t176).bind fun t195 => (if t194 = t195 then ((header_Header_First.f a0_0 a0_1 a0_2 a0_3 a0_4).bind fun t196 => ((fettleref07_Head_At.f k t172 t173 t174 t175 t176 5).bind fun t197 => (if t196 = t197 then ((header_Header_Least.f a0_0 a0_1 a0_2 a0_3 a0_4).bind fun t198 => ((fettleref07_Head_Least.f k t172 t173 t174 t175 t176).bind fun t199 => (fettlelaw07_HeaderPlaces.j0 k t178 (t198 != t199) t172 t173 t174 t175 t176 t179 t180 t181 t182 bt183.1 bt183.2 bt185.1 bt185.2))) else (none)))) else (none)))) else (none))) else (none))) else (none))))) = some r := H
 have A5 := Aside0.mk A50
 clear A50
 replace H := Option.bind_eq_some_iff.mp H
 obtain ⟨⟨t183, t184⟩, A60, H⟩ := H
 replace H : ((header_Header_TopAt.f a0_0 a0_1 a0_2 a0_3 a0_4).bind fun bt185 => ((fettlelaw07_laid.f k).bind fun t191 => (if t191 = true then ((header_Header_Cluster.f a0_0 a0_1 a0_2 a0_3 a0_4).bind fun t192 => (if t192 = t178 then ((header_Header_Entries.f a0_0 a0_1 a0_2 a0_3 a0_4).bind fun t193 => (if t193 = (wrap64 (Int.tdiv t178 8)) then ((header_Header_Guest.f a0_0 a0_1 a0_2 a0_3 a0_4).bind fun t194 => ((fettleref07_Head_Guest.f k t172 t173 t174 t175 t176).bind fun t195 => (if t194 = t195 then ((header_Header_First.f a0_0 a0_1 a0_2 a0_3 a0_4).bind fun t196 => ((fettleref07_Head_At.f k t172 t173 t174 t175 t176 5).bind fun t197 => (if t196 = t197 then ((header_Header_Least.f a0_0 a0_1 a0_2 a0_3 a0_4).bind fun t198 => ((fettleref07_Head_Least.f k t172 t173 t174 t175 t176).bind fun t199 => (fettlelaw07_HeaderPlaces.j0 k t178 (t198 != t199) t172 t173 t174 t175 t176 t179 t180 t181 t182 t183 t184 bt185.1 bt185.2))) else (none)))) else (none)))) else (none))) else (none))) else (none)))) = some r := H
 have A6 := Aside0.mk A60
 clear A60
 replace H := Option.bind_eq_some_iff.mp H
 obtain ⟨⟨t185, t186⟩, A70, H⟩ := H
 replace H : ((fettlelaw07_laid.f k).bind fun t191 => (if t191 = true then ((header_Header_Cluster.f a0_0 a0_1 a0_2 a0_3 a0_4).bind fun t192 => (if t192 = t178 then ((header_Header_Entries.f a0_0 a0_1 a0_2 a0_3 a0_4).bind fun t193 => (if t193 = (wrap64 (Int.tdiv t178 8)) then ((header_Header_Guest.f a0_0 a0_1 a0_2 a0_3 a0_4).bind fun t194 => ((fettleref07_Head_Guest.f k t172 t173 t174 t175 t176).bind fun t195 => (if t194 = t195 then ((header_Header_First.f a0_0 a0_1 a0_2 a0_3 a0_4).bind fun t196 => ((fettleref07_Head_At.f k t172 t173 t174 t175 t176 5).bind fun t197 => (if t196 = t197 then ((header_Header_Least.f a0_0 a0_1 a0_2 a0_3 a0_4).bind fun t198 => ((fettleref07_Head_Least.f k t172 t173 t174 t175 t176).bind fun t199 => (fettlelaw07_HeaderPlaces.j0 k t178 (t198 != t199) t172 t173 t174 t175 t176 t179 t180 t181 t182 t183 t184 t185 t186))) else (none)))) else (none)))) else (none))) else (none))) else (none))) = some r := H
 have A7 := Aside0.mk A70
 clear A70
 have HC8 := Aside0.mk H
 clear H
 go_enter Try.func11, Try.ntmps11
 try go_wp2_with (first | ((with_reducible refine gate_dst (N := 1) rfl ?_); refine box_event ?hg (N := 1) ?hd (cs := #[.int .i64 a0_0, .int .i64 a0_1, .int .i64 a0_2, .int .i64 a0_3, .bool a0_4]) (t := 69) ?hr ?_; (case hd => rfl); (case hg => rfl); (case hr => first | (go_simp; done) | (go_simp; rfl)); intro gb171 hg w9 hbox hb; have n0_ := Aside0.mk (below_step (by repeat (first | (with_reducible first | exact HB.out | apply below_alloc | apply pw_below_drewN | apply below_drew1) | exact HB.out)) hb); have n1_ := Aside0.mk (hbox); have n2_ := Aside0.mk ((by rw [hg]; exact (below_size (by repeat (first | (with_reducible first | exact HB.out | apply below_alloc | apply pw_below_drewN | apply below_drew1) | exact HB.out))) : w.heap.size ≤ gb171)); have n3_ := Aside0.mk ((by rw [hg]; exact (below_size (by repeat (first | (with_reducible first | exact HB.out | apply below_alloc | apply pw_below_drewN | apply below_drew1) | exact HB.out))) : w.heap.size ≤ gb171)); clear HB; have HB := n0_; have BK171 := n1_; have GW171 := n2_; have GE171 := n3_; clear n0_ n1_ n2_ n3_; clear hb hbox hg; have hcz10_0 : w9.cell? ⟨gb171, 0, none⟩ = some (.int .i64 a0_0) := (blk_cell BK171.out 0).trans rfl; have hcz10_1 : w9.cell? ⟨gb171, 1, none⟩ = some (.int .i64 a0_1) := (blk_cell BK171.out 1).trans rfl; have hcz10_2 : w9.cell? ⟨gb171, 2, none⟩ = some (.int .i64 a0_2) := (blk_cell BK171.out 2).trans rfl; have hcz10_3 : w9.cell? ⟨gb171, 3, none⟩ = some (.int .i64 a0_3) := (blk_cell BK171.out 3).trans rfl; have hcz10_4 : w9.cell? ⟨gb171, 4, none⟩ = some (.bool a0_4) := (blk_cell BK171.out 4).trans rfl; have hfz10_0 := blk_frozen BK171.out 0; have hfz10_1 := blk_frozen BK171.out 1; have hfz10_2 := blk_frozen BK171.out 2; have hfz10_3 := blk_frozen BK171.out 3; have hfz10_4 := blk_frozen BK171.out 4) | ((with_reducible refine gate_callee (f := 43) rfl ?_); refine goesL_ (some 10) rfl rfl Try.func43 (by kernel_rfl) rfl #[.agg #[.int .i64 a0_0, .int .i64 a0_1, .int .i64 a0_2, .int .i64 a0_3, .bool a0_4]] rfl (by (try simp only [List.map_toArray, List.map_cons, List.map_nil]); first | done | rfl | (simp only [List.length_drop, List.length_take]; rfl)) ?_; (with_reducible refine (fettlelaw07_of.calls a0_0 a0_1 a0_2 a0_3 a0_4 t172 t173 t174 t175 t176 _ A2.out).mono ?_); rintro e w11 ⟨rfl, hb⟩; refine ⟨_, rfl, ?_⟩; have n0_ := Aside0.mk (blk_below (g := gb171) (o := .cells #[.int .i64 a0_0, .int .i64 a0_1, .int .i64 a0_2, .int .i64 a0_3, .bool a0_4] 69 (0, 0)) (by (with_reducible repeat (first | refine blk_drewN ?_ _ | refine blk_drew ?_ | refine blk_alloc ?_ _)); exact BK171.out) hb); have n1_ := Aside0.mk (below_step (by repeat (first | (with_reducible first | exact HB.out | apply below_alloc | apply pw_below_drewN | apply below_drew1 | refine below_set ?_ GE171.out) | exact HB.out)) hb); clear BK171; clear HB; have BK171 := n0_; have HB := n1_; clear n0_ n1_; (try clear hb); (try clear hb2); (try clear hk); (try clear hi)) | ((with_reducible refine gate_dst (N := 3) rfl ?_); refine box_event ?hg (N := 3) ?hd (cs := #[.int .i64 0, .int .i64 0, .int .i64 0, .int .i64 0, .bool false]) (t := 70) ?hr ?_; (case hd => rfl); (case hg => rfl); (case hr => first | (go_simp; done) | (go_simp; rfl)); intro gb177 hg w12 hbox hb; have n0_ := Aside0.mk (blk_below (g := gb171) (o := .cells #[.int .i64 a0_0, .int .i64 a0_1, .int .i64 a0_2, .int .i64 a0_3, .bool a0_4] 69 (0, 0)) (by (with_reducible repeat (first | refine blk_drewN ?_ _ | refine blk_drew ?_ | refine blk_alloc ?_ _)); exact BK171.out) hb); have n1_ := Aside0.mk (below_step (by repeat (first | (with_reducible first | exact HB.out | apply below_alloc | apply pw_below_drewN | apply below_drew1 | refine below_set ?_ GE171.out) | exact HB.out)) hb); have n2_ := Aside0.mk (hbox); have n3_ := Aside0.mk ((by rw [hg]; exact (below_size (by repeat (first | (with_reducible first | exact HB.out | apply below_alloc | apply pw_below_drewN | apply below_drew1 | refine below_set ?_ GE171.out) | exact HB.out))) : w.heap.size ≤ gb177)); have n4_ := Aside0.mk ((by rw [hg]; exact (below_size (by repeat (first | (with_reducible first | exact HB.out | apply below_alloc | apply pw_below_drewN | apply below_drew1 | refine below_set ?_ GE171.out) | exact HB.out))) : w.heap.size ≤ gb177)); have n5_ := Aside0.mk ((by rw [hg]; exact Nat.ne_of_lt (blk_lt (g := gb171) (o := .cells #[.int .i64 a0_0, .int .i64 a0_1, .int .i64 a0_2, .int .i64 a0_3, .bool a0_4] 69 (0, 0)) (by (with_reducible repeat (first | refine blk_drewN ?_ _ | refine blk_drew ?_ | refine blk_alloc ?_ _)); exact BK171.out)) : gb171 ≠ gb177)); have n6_ := Aside0.mk ((by rw [hg]; exact Nat.ne_of_gt (blk_lt (g := gb171) (o := .cells #[.int .i64 a0_0, .int .i64 a0_1, .int .i64 a0_2, .int .i64 a0_3, .bool a0_4] 69 (0, 0)) (by (with_reducible repeat (first | refine blk_drewN ?_ _ | refine blk_drew ?_ | refine blk_alloc ?_ _)); exact BK171.out)) : gb177 ≠ gb171)); clear BK171; clear HB; have BK171 := n0_; have HB := n1_; have BK177 := n2_; have GW177 := n3_; have GE177 := n4_; have NB171_177 := n5_; have NB177_171 := n6_; clear n0_ n1_ n2_ n3_ n4_ n5_ n6_; clear hb hbox hg; have hnb13 := NB177_171.out; have hnc13 := NB171_177.out; have hcz14_0 : w12.cell? ⟨gb177, 0, none⟩ = some (.int .i64 0) := (blk_cell BK177.out 0).trans rfl; have hcz14_1 : w12.cell? ⟨gb177, 1, none⟩ = some (.int .i64 0) := (blk_cell BK177.out 1).trans rfl; have hcz14_2 : w12.cell? ⟨gb177, 2, none⟩ = some (.int .i64 0) := (blk_cell BK177.out 2).trans rfl; have hcz14_3 : w12.cell? ⟨gb177, 3, none⟩ = some (.int .i64 0) := (blk_cell BK177.out 3).trans rfl; have hcz14_4 : w12.cell? ⟨gb177, 4, none⟩ = some (.bool false) := (blk_cell BK177.out 4).trans rfl; have hfz14_0 := blk_frozen BK177.out 0; have hfz14_1 := blk_frozen BK177.out 1; have hfz14_2 := blk_frozen BK177.out 2; have hfz14_3 := blk_frozen BK177.out 3; have hfz14_4 := blk_frozen BK177.out 4) | ((with_reducible refine gate_callee (f := 44) rfl ?_); refine goesL_ (some 12) rfl rfl Try.func44 (by kernel_rfl) rfl #[.agg #[.int .i64 t172, .int .i64 t173, .int .i64 t174, .int .i64 t175, .bool t176]] rfl (by (try simp only [List.map_toArray, List.map_cons, List.map_nil]); first | done | rfl | (simp only [List.length_drop, List.length_take]; rfl)) ?_; (with_reducible refine (fettleref07_Head_Cluster.calls k t172 t173 t174 t175 t176 t178 _ A3.out).mono ?_); rintro e w15 ⟨rfl, hb⟩; refine ⟨_, rfl, ?_⟩; have n0_ := Aside0.mk (blk_below (g := gb171) (o := .cells #[.int .i64 a0_0, .int .i64 a0_1, .int .i64 a0_2, .int .i64 a0_3, .bool a0_4] 69 (0, 0)) (by (with_reducible repeat (first | refine blk_drewN ?_ _ | refine blk_drew ?_ | refine blk_alloc ?_ _)); refine blk_far ?_ NB171_177.out _; (with_reducible repeat (first | refine blk_drewN ?_ _ | refine blk_drew ?_ | refine blk_alloc ?_ _)); refine blk_far ?_ NB171_177.out _; (with_reducible repeat (first | refine blk_drewN ?_ _ | refine blk_drew ?_ | refine blk_alloc ?_ _)); refine blk_far ?_ NB171_177.out _; (with_reducible repeat (first | refine blk_drewN ?_ _ | refine blk_drew ?_ | refine blk_alloc ?_ _)); refine blk_far ?_ NB171_177.out _; (with_reducible repeat (first | refine blk_drewN ?_ _ | refine blk_drew ?_ | refine blk_alloc ?_ _)); refine blk_far ?_ NB171_177.out _; (with_reducible repeat (first | refine blk_drewN ?_ _ | refine blk_drew ?_ | refine blk_alloc ?_ _)); exact BK171.out) hb); have n1_ := Aside0.mk (blk_below (g := gb177) (o := .cells #[.int .i64 t172, .int .i64 t173, .int .i64 t174, .int .i64 t175, .bool t176] 70 (0, 0)) (by (with_reducible repeat (first | refine blk_drewN ?_ _ | refine blk_drew ?_ | refine blk_alloc ?_ _)); refine blk_put (cs := #[.int .i64 t172, .int .i64 t173, .int .i64 t174, .int .i64 t175, .bool false]) ?_ 4 _ (by first | rfl | (simp [*]; done)); (with_reducible repeat (first | refine blk_drewN ?_ _ | refine blk_drew ?_ | refine blk_alloc ?_ _)); refine blk_put (cs := #[.int .i64 t172, .int .i64 t173, .int .i64 t174, .int .i64 0, .bool false]) ?_ 3 _ (by first | rfl | (simp [*]; done)); (with_reducible repeat (first | refine blk_drewN ?_ _ | refine blk_drew ?_ | refine blk_alloc ?_ _)); refine blk_put (cs := #[.int .i64 t172, .int .i64 t173, .int .i64 0, .int .i64 0, .bool false]) ?_ 2 _ (by first | rfl | (simp [*]; done)); (with_reducible repeat (first | refine blk_drewN ?_ _ | refine blk_drew ?_ | refine blk_alloc ?_ _)); refine blk_put (cs := #[.int .i64 t172, .int .i64 0, .int .i64 0, .int .i64 0, .bool false]) ?_ 1 _ (by first | rfl | (simp [*]; done)); (with_reducible repeat (first | refine blk_drewN ?_ _ | refine blk_drew ?_ | refine blk_alloc ?_ _)); refine blk_put (cs := #[.int .i64 0, .int .i64 0, .int .i64 0, .int .i64 0, .bool false]) ?_ 0 _ (by first | rfl | (simp [*]; done)); (with_reducible repeat (first | refine blk_drewN ?_ _ | refine blk_drew ?_ | refine blk_alloc ?_ _)); exact BK177.out) hb); have n2_ := Aside0.mk (below_step (by repeat (first | (with_reducible first | exact HB.out | apply below_alloc | apply pw_below_drewN | apply below_drew1 | refine below_set ?_ GE171.out | refine below_set ?_ GE177.out) | exact HB.out)) hb); clear BK171; clear BK177; clear HB; have BK171 := n0_; have BK177 := n1_; have HB := n2_; clear n0_ n1_ n2_; (try clear hb); (try clear hb2); (try clear hk); (try clear hi)))
 have n0_ := Aside0.mk (blk_drew BK171.out)
 have n1_ := Aside0.mk (blk_drew BK177.out)
 have n2_ := Aside0.mk (below_drew1 HB.out)
 clear BK171
 clear BK177
 clear HB
 have BK171 := n0_
 have BK177 := n1_
 have HB := n2_
 clear n0_ n1_ n2_
 refine start_ (n := 16) (S := fun w' => True) (ds := []) #[false, false, false, false, false, false, false, false, false, false, false, false, false, false, false, false] (by kernel_rfl) rfl rfl trivial (fun hHeld => ?_); refine with_tabW fettlelaw07_HeaderPlaces.tab3 fettlelaw07_HeaderPlaces.bits3 (fun HT_ HW_ => ?_)
 generalize w15.drew = w16 at BK171 BK177 HB hHeld ⊢
 refine inv_at [0, 1, 2, 3, 4, 5, 6, 7, 8, 9, 10, 11, 12, 13, 14, 15] (fun a0_ b a w' => ∃ (gb187 : Nat) (gb188 : Nat) (gb189 : Nat) (gb190 : Nat) (m8_ : Value) (m9_ : Value) (m10_ : Value) (m11_ : Value), a = putSel a0_ b [(0, 13, .agg #[.int .i64 a0_0, .int .i64 a0_1, .int .i64 a0_2, .int .i64 a0_3, .bool a0_4]), (1, 14, .agg #[.int .i64 t179, .int .i64 t180]), (2, 15, .agg #[.int .i64 a0_0, .int .i64 a0_1, .int .i64 a0_2, .int .i64 a0_3, .bool a0_4]), (3, 16, .agg #[.int .i64 t181, .int .i64 t182]), (4, 17, .agg #[.int .i64 a0_0, .int .i64 a0_1, .int .i64 a0_2, .int .i64 a0_3, .bool a0_4]), (5, 18, .agg #[.int .i64 t183, .int .i64 t184]), (6, 19, .agg #[.int .i64 a0_0, .int .i64 a0_1, .int .i64 a0_2, .int .i64 a0_3, .bool a0_4]), (7, 20, .agg #[.int .i64 t185, .int .i64 t186]), (8, 5, m8_), (9, 6, m9_), (10, 7, m10_), (11, 8, m11_)] ∧ (w'.heap[gb171]? = some (.cells #[.int .i64 a0_0, .int .i64 a0_1, .int .i64 a0_2, .int .i64 a0_3, .bool a0_4] 69 (0, 0))) ∧ (w'.heap[gb177]? = some (.cells #[.int .i64 t172, .int .i64 t173, .int .i64 t174, .int .i64 t175, .bool t176] 70 (0, 0))) ∧ (Below w.heap.size w w') ∧ (b 8 = true → b 9 = true → gb188 ≠ gb187) ∧ (b 8 = true → b 9 = true → gb187 ≠ gb188) ∧ (b 8 = true → b 10 = true → gb189 ≠ gb187) ∧ (b 8 = true → b 10 = true → gb187 ≠ gb189) ∧ (b 8 = true → b 11 = true → gb190 ≠ gb187) ∧ (b 8 = true → b 11 = true → gb187 ≠ gb190) ∧ (b 9 = true → b 10 = true → gb189 ≠ gb188) ∧ (b 9 = true → b 10 = true → gb188 ≠ gb189) ∧ (b 9 = true → b 11 = true → gb190 ≠ gb188) ∧ (b 9 = true → b 11 = true → gb188 ≠ gb190) ∧ (b 10 = true → b 11 = true → gb190 ≠ gb189) ∧ (b 10 = true → b 11 = true → gb189 ≠ gb190) ∧ (b 8 = true → b 12 = false → w'.heap[gb187]? = some (.cells #[.int .i64 0, .int .i64 0] 74 (0, 0))) ∧ (b 8 = true → w.heap.size ≤ gb187) ∧ (b 8 = true → w.heap.size ≤ gb187) ∧ (b 8 = true → gb171 ≠ gb187) ∧ (b 8 = true → gb187 ≠ gb171) ∧ (b 8 = true → gb177 ≠ gb187) ∧ (b 8 = true → gb187 ≠ gb177) ∧ (b 9 = true → b 13 = false → w'.heap[gb188]? = some (.cells #[.int .i64 0, .int .i64 0] 74 (0, 0))) ∧ (b 9 = true → w.heap.size ≤ gb188) ∧ (b 9 = true → w.heap.size ≤ gb188) ∧ (b 9 = true → gb171 ≠ gb188) ∧ (b 9 = true → gb188 ≠ gb171) ∧ (b 9 = true → gb177 ≠ gb188) ∧ (b 9 = true → gb188 ≠ gb177) ∧ (b 10 = true → b 14 = false → w'.heap[gb189]? = some (.cells #[.int .i64 0, .int .i64 0] 74 (0, 0))) ∧ (b 10 = true → w.heap.size ≤ gb189) ∧ (b 10 = true → w.heap.size ≤ gb189) ∧ (b 10 = true → gb171 ≠ gb189) ∧ (b 10 = true → gb189 ≠ gb171) ∧ (b 10 = true → gb177 ≠ gb189) ∧ (b 10 = true → gb189 ≠ gb177) ∧ (b 11 = true → b 15 = false → w'.heap[gb190]? = some (.cells #[.int .i64 0, .int .i64 0] 74 (0, 0))) ∧ (b 11 = true → w.heap.size ≤ gb190) ∧ (b 11 = true → w.heap.size ≤ gb190) ∧ (b 11 = true → gb171 ≠ gb190) ∧ (b 11 = true → gb190 ≠ gb171) ∧ (b 11 = true → gb177 ≠ gb190) ∧ (b 11 = true → gb190 ≠ gb177) ∧ (b 12 = true → w'.heap[gb187]? = some (.cells #[.int .i64 t179, .int .i64 t180] 74 (0, 0))) ∧ (b 13 = true → w'.heap[gb188]? = some (.cells #[.int .i64 t181, .int .i64 t182] 74 (0, 0))) ∧ (b 14 = true → w'.heap[gb189]? = some (.cells #[.int .i64 t183, .int .i64 t184] 74 (0, 0))) ∧ (b 15 = true → w'.heap[gb190]? = some (.cells #[.int .i64 t185, .int .i64 t186] 74 (0, 0))) ∧ (b 8 = true → (m8_ : Value) = .pointer (some ⟨gb187, 0, none⟩)) ∧ (b 9 = true → (m9_ : Value) = .pointer (some ⟨gb188, 0, none⟩)) ∧ (b 10 = true → (m10_ : Value) = .pointer (some ⟨gb189, 0, none⟩)) ∧ (b 11 = true → (m11_ : Value) = .pointer (some ⟨gb190, 0, none⟩))) HT_.out HW_.out (by kernel_rfl) (by kernel_rfl) ?_ ?_ ?_
 ·exact ⟨0, 0, 0, 0, .bool false, .bool false, .bool false, .bool false, by simp only [putSel, Bool.false_eq_true, if_false], BK171.out, BK177.out, HB.out, fun h_ => absurd h_ (by decide), fun h_ => absurd h_ (by decide), fun h_ => absurd h_ (by decide), fun h_ => absurd h_ (by decide), fun h_ => absurd h_ (by decide), fun h_ => absurd h_ (by decide), fun h_ => absurd h_ (by decide), fun h_ => absurd h_ (by decide), fun h_ => absurd h_ (by decide), fun h_ => absurd h_ (by decide), fun h_ => absurd h_ (by decide), fun h_ => absurd h_ (by decide), fun h_ => absurd h_ (by decide), fun h_ => absurd h_ (by decide), fun h_ => absurd h_ (by decide), fun h_ => absurd h_ (by decide), fun h_ => absurd h_ (by decide), fun h_ => absurd h_ (by decide), fun h_ => absurd h_ (by decide), fun h_ => absurd h_ (by decide), fun h_ => absurd h_ (by decide), fun h_ => absurd h_ (by decide), fun h_ => absurd h_ (by decide), fun h_ => absurd h_ (by decide), fun h_ => absurd h_ (by decide), fun h_ => absurd h_ (by decide), fun h_ => absurd h_ (by decide), fun h_ => absurd h_ (by decide), fun h_ => absurd h_ (by decide), fun h_ => absurd h_ (by decide), fun h_ => absurd h_ (by decide), fun h_ => absurd h_ (by decide), fun h_ => absurd h_ (by decide), fun h_ => absurd h_ (by decide), fun h_ => absurd h_ (by decide), fun h_ => absurd h_ (by decide), fun h_ => absurd h_ (by decide), fun h_ => absurd h_ (by decide), fun h_ => absurd h_ (by decide), fun h_ => absurd h_ (by decide), fun h_ => absurd h_ (by decide), fun h_ => absurd h_ (by decide), fun h_ => absurd h_ (by decide), fun h_ => absurd h_ (by decide), fun h_ => absurd h_ (by decide), fun h_ => absurd h_ (by decide), fun h_ => absurd h_ (by decide), fun h_ => absurd h_ (by decide)⟩
 ·skip
  clear BK171 BK177 HB
  refine steps_cons ?_ ?_
  ·rintro b a w' ⟨gb187, gb188, gb189, gb190, m8_, m9_, m10_, m11_, ha, Q_BK171, Q_BK177, Q_HB, Q_NB188_187, Q_NB187_188, Q_NB189_187, Q_NB187_189, Q_NB190_187, Q_NB187_190, Q_NB189_188, Q_NB188_189, Q_NB190_188, Q_NB188_190, Q_NB190_189, Q_NB189_190, Q_BK187, Q_GW187, Q_GE187, Q_NB171_187, Q_NB187_171, Q_NB177_187, Q_NB187_177, Q_BK188, Q_GW188, Q_GE188, Q_NB171_188, Q_NB188_171, Q_NB177_188, Q_NB188_177, Q_BK189, Q_GW189, Q_GE189, Q_NB171_189, Q_NB189_171, Q_NB177_189, Q_NB189_177, Q_BK190, Q_GW190, Q_GE190, Q_NB171_190, Q_NB190_171, Q_NB177_190, Q_NB190_177, Q_BK187_e12, Q_BK188_e13, Q_BK189_e14, Q_BK190_e15, Q_X8_, Q_X9_, Q_X10_, Q_X11_⟩ hb_ hon hoff
   refine ⟨_, rfl, fun K hK => ?_⟩
   have e1 : a.tmps[1]? = some (.pointer (some ⟨gb171, 0, none⟩)) := by rw [ha]; exact (putSel_off rfl).trans rfl
   replace ha := Aside0.mk ha
   have BK171 := Aside0.mk Q_BK171
   have BK177 := Aside0.mk Q_BK177
   have HB := Aside0.mk Q_HB
   have hc0_ : w'.cell? ⟨gb171, 0, none⟩ = some (.int .i64 a0_0) := (blk_cell BK171.out 0).trans rfl
   have hc1_ : w'.cell? ⟨gb171, 1, none⟩ = some (.int .i64 a0_1) := (blk_cell BK171.out 1).trans rfl
   have hc2_ : w'.cell? ⟨gb171, 2, none⟩ = some (.int .i64 a0_2) := (blk_cell BK171.out 2).trans rfl
   have hc3_ : w'.cell? ⟨gb171, 3, none⟩ = some (.int .i64 a0_3) := (blk_cell BK171.out 3).trans rfl
   have hc4_ : w'.cell? ⟨gb171, 4, none⟩ = some (.bool a0_4) := (blk_cell BK171.out 4).trans rfl
   refine value_ (w1 := w') (v := .agg #[.int .i64 a0_0, .int .i64 a0_1, .int .i64 a0_2, .int .i64 a0_3, .bool a0_4]) (by rfl) rfl ?_ ?_
   ·go_simp
    (try simp only [i64_w])
    try rfl
   refine hK.out _ _ ⟨gb187, gb188, gb189, gb190, m8_, m9_, m10_, m11_, (by rw [ha.out]; exact putSel_upk 0 hb_ rfl rfl rfl), Q_BK171, Q_BK177, Q_HB, Q_NB188_187, Q_NB187_188, Q_NB189_187, Q_NB187_189, Q_NB190_187, Q_NB187_190, Q_NB189_188, Q_NB188_189, Q_NB190_188, Q_NB188_190, Q_NB190_189, Q_NB189_190, Q_BK187, Q_GW187, Q_GE187, Q_NB171_187, Q_NB187_171, Q_NB177_187, Q_NB187_177, Q_BK188, Q_GW188, Q_GE188, Q_NB171_188, Q_NB188_171, Q_NB177_188, Q_NB188_177, Q_BK189, Q_GW189, Q_GE189, Q_NB171_189, Q_NB189_171, Q_NB177_189, Q_NB189_177, Q_BK190, Q_GW190, Q_GE190, Q_NB171_190, Q_NB190_171, Q_NB177_190, Q_NB190_177, fun h0_ => absurd ((hoff 12 (by kernel_rfl)).symm.trans h0_) (by decide), fun h0_ => absurd ((hoff 13 (by kernel_rfl)).symm.trans h0_) (by decide), fun h0_ => absurd ((hoff 14 (by kernel_rfl)).symm.trans h0_) (by decide), fun h0_ => absurd ((hoff 15 (by kernel_rfl)).symm.trans h0_) (by decide), Q_X8_, Q_X9_, Q_X10_, Q_X11_⟩
  refine steps_cons ?_ ?_
  ·rintro b a w' ⟨gb187, gb188, gb189, gb190, m8_, m9_, m10_, m11_, ha, Q_BK171, Q_BK177, Q_HB, Q_NB188_187, Q_NB187_188, Q_NB189_187, Q_NB187_189, Q_NB190_187, Q_NB187_190, Q_NB189_188, Q_NB188_189, Q_NB190_188, Q_NB188_190, Q_NB190_189, Q_NB189_190, Q_BK187, Q_GW187, Q_GE187, Q_NB171_187, Q_NB187_171, Q_NB177_187, Q_NB187_177, Q_BK188, Q_GW188, Q_GE188, Q_NB171_188, Q_NB188_171, Q_NB177_188, Q_NB188_177, Q_BK189, Q_GW189, Q_GE189, Q_NB171_189, Q_NB189_171, Q_NB177_189, Q_NB189_177, Q_BK190, Q_GW190, Q_GE190, Q_NB171_190, Q_NB190_171, Q_NB177_190, Q_NB190_177, Q_BK187_e12, Q_BK188_e13, Q_BK189_e14, Q_BK190_e15, Q_X8_, Q_X9_, Q_X10_, Q_X11_⟩ hb_ hon hoff
   refine ⟨_, rfl, fun K hK => ?_⟩
   have e13 : a.tmps[13]? = some (.agg #[.int .i64 a0_0, .int .i64 a0_1, .int .i64 a0_2, .int .i64 a0_3, .bool a0_4]) := by rw [ha]; exact putSel_on (e := (0, 13, .agg #[.int .i64 a0_0, .int .i64 a0_1, .int .i64 a0_2, .int .i64 a0_3, .bool a0_4])) 0 rfl rfl (hon 0 (by kernel_rfl)) rfl
   replace ha := Aside0.mk ha
   have BK171 := Aside0.mk Q_BK171
   have BK177 := Aside0.mk Q_BK177
   have HB := Aside0.mk Q_HB
   refine goes_ Try.func45 (by kernel_rfl) rfl #[.agg #[.int .i64 a0_0, .int .i64 a0_1, .int .i64 a0_2, .int .i64 a0_3, .bool a0_4]] (by rfl) rfl rfl (by first | (simp only [List.map_toArray, List.map_cons, List.map_nil, Act.eval, Array.getD_eq_getD_getElem?, Option.getD_some, e13]; done) | (simp only [List.map_toArray, List.map_cons, List.map_nil, Act.eval, Array.getD_eq_getD_getElem?, Option.getD_some, e13]; rfl)) ?_
   with_reducible refine (header_Header_JournalAt.calls a0_0 a0_1 a0_2 a0_3 a0_4 t179 t180 _ A4.out).mono ?_
   rintro e w17 ⟨rfl, hb⟩
   refine ⟨_, rfl, ?_⟩
   have n0_ := Aside0.mk (blk_below (g := gb171) (o := .cells #[.int .i64 a0_0, .int .i64 a0_1, .int .i64 a0_2, .int .i64 a0_3, .bool a0_4] 69 (0, 0)) (by (with_reducible repeat (first | refine blk_drewN ?_ _ | refine blk_drew ?_ | refine blk_alloc ?_ _)); exact BK171.out) hb)
   have n1_ := Aside0.mk (blk_below (g := gb177) (o := .cells #[.int .i64 t172, .int .i64 t173, .int .i64 t174, .int .i64 t175, .bool t176] 70 (0, 0)) (by (with_reducible repeat (first | refine blk_drewN ?_ _ | refine blk_drew ?_ | refine blk_alloc ?_ _)); exact BK177.out) hb)
   have n2_ := Aside0.mk (below_step (by repeat (first | (with_reducible first | exact HB.out | apply below_alloc | apply pw_below_drewN | apply below_drew1 | refine below_set ?_ GE171.out | refine below_set ?_ GE177.out) | exact HB.out)) hb)
   have z_BK187 := fun (h0_ : b 8 = true) (h1_ : b 12 = false) => (show w17.heap[gb187]? = some (.cells #[.int .i64 0, .int .i64 0] 74 (0, 0)) from by first | exact (blk_below (g := gb187) (o := .cells #[.int .i64 0, .int .i64 0] 74 (0, 0)) (by (with_reducible repeat (first | refine blk_drewN ?_ _ | refine blk_drew ?_ | refine blk_alloc ?_ _)); exact (Q_BK187 h0_ h1_)) hb))
   have z_BK188 := fun (h0_ : b 9 = true) (h1_ : b 13 = false) => (show w17.heap[gb188]? = some (.cells #[.int .i64 0, .int .i64 0] 74 (0, 0)) from by first | exact (blk_below (g := gb188) (o := .cells #[.int .i64 0, .int .i64 0] 74 (0, 0)) (by (with_reducible repeat (first | refine blk_drewN ?_ _ | refine blk_drew ?_ | refine blk_alloc ?_ _)); exact (Q_BK188 h0_ h1_)) hb))
   have z_BK189 := fun (h0_ : b 10 = true) (h1_ : b 14 = false) => (show w17.heap[gb189]? = some (.cells #[.int .i64 0, .int .i64 0] 74 (0, 0)) from by first | exact (blk_below (g := gb189) (o := .cells #[.int .i64 0, .int .i64 0] 74 (0, 0)) (by (with_reducible repeat (first | refine blk_drewN ?_ _ | refine blk_drew ?_ | refine blk_alloc ?_ _)); exact (Q_BK189 h0_ h1_)) hb))
   have z_BK190 := fun (h0_ : b 11 = true) (h1_ : b 15 = false) => (show w17.heap[gb190]? = some (.cells #[.int .i64 0, .int .i64 0] 74 (0, 0)) from by first | exact (blk_below (g := gb190) (o := .cells #[.int .i64 0, .int .i64 0] 74 (0, 0)) (by (with_reducible repeat (first | refine blk_drewN ?_ _ | refine blk_drew ?_ | refine blk_alloc ?_ _)); exact (Q_BK190 h0_ h1_)) hb))
   clear BK171
   clear BK177
   clear HB
   have BK171 := n0_
   have BK177 := n1_
   have HB := n2_
   clear n0_ n1_ n2_
   (try clear hb)
   (try clear hb2)
   (try clear hk)
   (try clear hi)
   refine hK.out _ _ ⟨gb187, gb188, gb189, gb190, m8_, m9_, m10_, m11_, (by rw [ha.out]; exact putSel_upk 1 hb_ rfl rfl rfl), (by (with_reducible repeat (first | refine blk_drewN ?_ _ | refine blk_drew ?_ | refine blk_alloc ?_ _)); exact BK171.out), (by (with_reducible repeat (first | refine blk_drewN ?_ _ | refine blk_drew ?_ | refine blk_alloc ?_ _)); exact BK177.out), (by repeat (first | (with_reducible first | exact HB.out | apply below_alloc | apply pw_below_drewN | apply below_drew1 | refine below_set ?_ GE171.out | refine below_set ?_ GE177.out) | exact HB.out)), Q_NB188_187, Q_NB187_188, Q_NB189_187, Q_NB187_189, Q_NB190_187, Q_NB187_190, Q_NB189_188, Q_NB188_189, Q_NB190_188, Q_NB188_190, Q_NB190_189, Q_NB189_190, z_BK187, Q_GW187, Q_GE187, Q_NB171_187, Q_NB187_171, Q_NB177_187, Q_NB187_177, z_BK188, Q_GW188, Q_GE188, Q_NB171_188, Q_NB188_171, Q_NB177_188, Q_NB188_177, z_BK189, Q_GW189, Q_GE189, Q_NB171_189, Q_NB189_171, Q_NB177_189, Q_NB189_177, z_BK190, Q_GW190, Q_GE190, Q_NB171_190, Q_NB190_171, Q_NB177_190, Q_NB190_177, fun h0_ => absurd ((hoff 12 (by kernel_rfl)).symm.trans h0_) (by decide), fun h0_ => absurd ((hoff 13 (by kernel_rfl)).symm.trans h0_) (by decide), fun h0_ => absurd ((hoff 14 (by kernel_rfl)).symm.trans h0_) (by decide), fun h0_ => absurd ((hoff 15 (by kernel_rfl)).symm.trans h0_) (by decide), Q_X8_, Q_X9_, Q_X10_, Q_X11_⟩
  refine steps_cons ?_ ?_
  ·rintro b a w' ⟨gb187, gb188, gb189, gb190, m8_, m9_, m10_, m11_, ha, Q_BK171, Q_BK177, Q_HB, Q_NB188_187, Q_NB187_188, Q_NB189_187, Q_NB187_189, Q_NB190_187, Q_NB187_190, Q_NB189_188, Q_NB188_189, Q_NB190_188, Q_NB188_190, Q_NB190_189, Q_NB189_190, Q_BK187, Q_GW187, Q_GE187, Q_NB171_187, Q_NB187_171, Q_NB177_187, Q_NB187_177, Q_BK188, Q_GW188, Q_GE188, Q_NB171_188, Q_NB188_171, Q_NB177_188, Q_NB188_177, Q_BK189, Q_GW189, Q_GE189, Q_NB171_189, Q_NB189_171, Q_NB177_189, Q_NB189_177, Q_BK190, Q_GW190, Q_GE190, Q_NB171_190, Q_NB190_171, Q_NB177_190, Q_NB190_177, Q_BK187_e12, Q_BK188_e13, Q_BK189_e14, Q_BK190_e15, Q_X8_, Q_X9_, Q_X10_, Q_X11_⟩ hb_ hon hoff
   refine ⟨_, rfl, fun K hK => ?_⟩
   have e1 : a.tmps[1]? = some (.pointer (some ⟨gb171, 0, none⟩)) := by rw [ha]; exact (putSel_off rfl).trans rfl
   replace ha := Aside0.mk ha
   have BK171 := Aside0.mk Q_BK171
   have BK177 := Aside0.mk Q_BK177
   have HB := Aside0.mk Q_HB
   have hc0_ : w'.cell? ⟨gb171, 0, none⟩ = some (.int .i64 a0_0) := (blk_cell BK171.out 0).trans rfl
   have hc1_ : w'.cell? ⟨gb171, 1, none⟩ = some (.int .i64 a0_1) := (blk_cell BK171.out 1).trans rfl
   have hc2_ : w'.cell? ⟨gb171, 2, none⟩ = some (.int .i64 a0_2) := (blk_cell BK171.out 2).trans rfl
   have hc3_ : w'.cell? ⟨gb171, 3, none⟩ = some (.int .i64 a0_3) := (blk_cell BK171.out 3).trans rfl
   have hc4_ : w'.cell? ⟨gb171, 4, none⟩ = some (.bool a0_4) := (blk_cell BK171.out 4).trans rfl
   refine value_ (w1 := w') (v := .agg #[.int .i64 a0_0, .int .i64 a0_1, .int .i64 a0_2, .int .i64 a0_3, .bool a0_4]) (by rfl) rfl ?_ ?_
   ·go_simp
    (try simp only [i64_w])
    try rfl
   refine hK.out _ _ ⟨gb187, gb188, gb189, gb190, m8_, m9_, m10_, m11_, (by rw [ha.out]; exact putSel_upk 2 hb_ rfl rfl rfl), Q_BK171, Q_BK177, Q_HB, Q_NB188_187, Q_NB187_188, Q_NB189_187, Q_NB187_189, Q_NB190_187, Q_NB187_190, Q_NB189_188, Q_NB188_189, Q_NB190_188, Q_NB188_190, Q_NB190_189, Q_NB189_190, Q_BK187, Q_GW187, Q_GE187, Q_NB171_187, Q_NB187_171, Q_NB177_187, Q_NB187_177, Q_BK188, Q_GW188, Q_GE188, Q_NB171_188, Q_NB188_171, Q_NB177_188, Q_NB188_177, Q_BK189, Q_GW189, Q_GE189, Q_NB171_189, Q_NB189_171, Q_NB177_189, Q_NB189_177, Q_BK190, Q_GW190, Q_GE190, Q_NB171_190, Q_NB190_171, Q_NB177_190, Q_NB190_177, fun h0_ => absurd ((hoff 12 (by kernel_rfl)).symm.trans h0_) (by decide), fun h0_ => absurd ((hoff 13 (by kernel_rfl)).symm.trans h0_) (by decide), fun h0_ => absurd ((hoff 14 (by kernel_rfl)).symm.trans h0_) (by decide), fun h0_ => absurd ((hoff 15 (by kernel_rfl)).symm.trans h0_) (by decide), Q_X8_, Q_X9_, Q_X10_, Q_X11_⟩
  refine steps_cons ?_ ?_
  ·rintro b a w' ⟨gb187, gb188, gb189, gb190, m8_, m9_, m10_, m11_, ha, Q_BK171, Q_BK177, Q_HB, Q_NB188_187, Q_NB187_188, Q_NB189_187, Q_NB187_189, Q_NB190_187, Q_NB187_190, Q_NB189_188, Q_NB188_189, Q_NB190_188, Q_NB188_190, Q_NB190_189, Q_NB189_190, Q_BK187, Q_GW187, Q_GE187, Q_NB171_187, Q_NB187_171, Q_NB177_187, Q_NB187_177, Q_BK188, Q_GW188, Q_GE188, Q_NB171_188, Q_NB188_171, Q_NB177_188, Q_NB188_177, Q_BK189, Q_GW189, Q_GE189, Q_NB171_189, Q_NB189_171, Q_NB177_189, Q_NB189_177, Q_BK190, Q_GW190, Q_GE190, Q_NB171_190, Q_NB190_171, Q_NB177_190, Q_NB190_177, Q_BK187_e12, Q_BK188_e13, Q_BK189_e14, Q_BK190_e15, Q_X8_, Q_X9_, Q_X10_, Q_X11_⟩ hb_ hon hoff
   refine ⟨_, rfl, fun K hK => ?_⟩
   have e15 : a.tmps[15]? = some (.agg #[.int .i64 a0_0, .int .i64 a0_1, .int .i64 a0_2, .int .i64 a0_3, .bool a0_4]) := by rw [ha]; exact putSel_on (e := (2, 15, .agg #[.int .i64 a0_0, .int .i64 a0_1, .int .i64 a0_2, .int .i64 a0_3, .bool a0_4])) 2 rfl rfl (hon 2 (by kernel_rfl)) rfl
   replace ha := Aside0.mk ha
   have BK171 := Aside0.mk Q_BK171
   have BK177 := Aside0.mk Q_BK177
   have HB := Aside0.mk Q_HB
   refine goes_ Try.func46 (by kernel_rfl) rfl #[.agg #[.int .i64 a0_0, .int .i64 a0_1, .int .i64 a0_2, .int .i64 a0_3, .bool a0_4]] (by rfl) rfl rfl (by first | (simp only [List.map_toArray, List.map_cons, List.map_nil, Act.eval, Array.getD_eq_getD_getElem?, Option.getD_some, e15]; done) | (simp only [List.map_toArray, List.map_cons, List.map_nil, Act.eval, Array.getD_eq_getD_getElem?, Option.getD_some, e15]; rfl)) ?_
   with_reducible refine (header_Header_RefsAt.calls a0_0 a0_1 a0_2 a0_3 a0_4 t181 t182 _ A5.out).mono ?_
   rintro e w19 ⟨rfl, hb⟩
   refine ⟨_, rfl, ?_⟩
   have n0_ := Aside0.mk (blk_below (g := gb171) (o := .cells #[.int .i64 a0_0, .int .i64 a0_1, .int .i64 a0_2, .int .i64 a0_3, .bool a0_4] 69 (0, 0)) (by (with_reducible repeat (first | refine blk_drewN ?_ _ | refine blk_drew ?_ | refine blk_alloc ?_ _)); exact BK171.out) hb)
   have n1_ := Aside0.mk (blk_below (g := gb177) (o := .cells #[.int .i64 t172, .int .i64 t173, .int .i64 t174, .int .i64 t175, .bool t176] 70 (0, 0)) (by (with_reducible repeat (first | refine blk_drewN ?_ _ | refine blk_drew ?_ | refine blk_alloc ?_ _)); exact BK177.out) hb)
   have n2_ := Aside0.mk (below_step (by repeat (first | (with_reducible first | exact HB.out | apply below_alloc | apply pw_below_drewN | apply below_drew1 | refine below_set ?_ GE171.out | refine below_set ?_ GE177.out) | exact HB.out)) hb)
   have z_BK187 := fun (h0_ : b 8 = true) (h1_ : b 12 = false) => (show w19.heap[gb187]? = some (.cells #[.int .i64 0, .int .i64 0] 74 (0, 0)) from by first | exact (blk_below (g := gb187) (o := .cells #[.int .i64 0, .int .i64 0] 74 (0, 0)) (by (with_reducible repeat (first | refine blk_drewN ?_ _ | refine blk_drew ?_ | refine blk_alloc ?_ _)); exact (Q_BK187 h0_ h1_)) hb))
   have z_BK188 := fun (h0_ : b 9 = true) (h1_ : b 13 = false) => (show w19.heap[gb188]? = some (.cells #[.int .i64 0, .int .i64 0] 74 (0, 0)) from by first | exact (blk_below (g := gb188) (o := .cells #[.int .i64 0, .int .i64 0] 74 (0, 0)) (by (with_reducible repeat (first | refine blk_drewN ?_ _ | refine blk_drew ?_ | refine blk_alloc ?_ _)); exact (Q_BK188 h0_ h1_)) hb))
   have z_BK189 := fun (h0_ : b 10 = true) (h1_ : b 14 = false) => (show w19.heap[gb189]? = some (.cells #[.int .i64 0, .int .i64 0] 74 (0, 0)) from by first | exact (blk_below (g := gb189) (o := .cells #[.int .i64 0, .int .i64 0] 74 (0, 0)) (by (with_reducible repeat (first | refine blk_drewN ?_ _ | refine blk_drew ?_ | refine blk_alloc ?_ _)); exact (Q_BK189 h0_ h1_)) hb))
   have z_BK190 := fun (h0_ : b 11 = true) (h1_ : b 15 = false) => (show w19.heap[gb190]? = some (.cells #[.int .i64 0, .int .i64 0] 74 (0, 0)) from by first | exact (blk_below (g := gb190) (o := .cells #[.int .i64 0, .int .i64 0] 74 (0, 0)) (by (with_reducible repeat (first | refine blk_drewN ?_ _ | refine blk_drew ?_ | refine blk_alloc ?_ _)); exact (Q_BK190 h0_ h1_)) hb))
   clear BK171
   clear BK177
   clear HB
   have BK171 := n0_
   have BK177 := n1_
   have HB := n2_
   clear n0_ n1_ n2_
   (try clear hb)
   (try clear hb2)
   (try clear hk)
   (try clear hi)
   refine hK.out _ _ ⟨gb187, gb188, gb189, gb190, m8_, m9_, m10_, m11_, (by rw [ha.out]; exact putSel_upk 3 hb_ rfl rfl rfl), (by (with_reducible repeat (first | refine blk_drewN ?_ _ | refine blk_drew ?_ | refine blk_alloc ?_ _)); exact BK171.out), (by (with_reducible repeat (first | refine blk_drewN ?_ _ | refine blk_drew ?_ | refine blk_alloc ?_ _)); exact BK177.out), (by repeat (first | (with_reducible first | exact HB.out | apply below_alloc | apply pw_below_drewN | apply below_drew1 | refine below_set ?_ GE171.out | refine below_set ?_ GE177.out) | exact HB.out)), Q_NB188_187, Q_NB187_188, Q_NB189_187, Q_NB187_189, Q_NB190_187, Q_NB187_190, Q_NB189_188, Q_NB188_189, Q_NB190_188, Q_NB188_190, Q_NB190_189, Q_NB189_190, z_BK187, Q_GW187, Q_GE187, Q_NB171_187, Q_NB187_171, Q_NB177_187, Q_NB187_177, z_BK188, Q_GW188, Q_GE188, Q_NB171_188, Q_NB188_171, Q_NB177_188, Q_NB188_177, z_BK189, Q_GW189, Q_GE189, Q_NB171_189, Q_NB189_171, Q_NB177_189, Q_NB189_177, z_BK190, Q_GW190, Q_GE190, Q_NB171_190, Q_NB190_171, Q_NB177_190, Q_NB190_177, fun h0_ => absurd ((hoff 12 (by kernel_rfl)).symm.trans h0_) (by decide), fun h0_ => absurd ((hoff 13 (by kernel_rfl)).symm.trans h0_) (by decide), fun h0_ => absurd ((hoff 14 (by kernel_rfl)).symm.trans h0_) (by decide), fun h0_ => absurd ((hoff 15 (by kernel_rfl)).symm.trans h0_) (by decide), Q_X8_, Q_X9_, Q_X10_, Q_X11_⟩
  refine steps_cons ?_ ?_
  ·rintro b a w' ⟨gb187, gb188, gb189, gb190, m8_, m9_, m10_, m11_, ha, Q_BK171, Q_BK177, Q_HB, Q_NB188_187, Q_NB187_188, Q_NB189_187, Q_NB187_189, Q_NB190_187, Q_NB187_190, Q_NB189_188, Q_NB188_189, Q_NB190_188, Q_NB188_190, Q_NB190_189, Q_NB189_190, Q_BK187, Q_GW187, Q_GE187, Q_NB171_187, Q_NB187_171, Q_NB177_187, Q_NB187_177, Q_BK188, Q_GW188, Q_GE188, Q_NB171_188, Q_NB188_171, Q_NB177_188, Q_NB188_177, Q_BK189, Q_GW189, Q_GE189, Q_NB171_189, Q_NB189_171, Q_NB177_189, Q_NB189_177, Q_BK190, Q_GW190, Q_GE190, Q_NB171_190, Q_NB190_171, Q_NB177_190, Q_NB190_177, Q_BK187_e12, Q_BK188_e13, Q_BK189_e14, Q_BK190_e15, Q_X8_, Q_X9_, Q_X10_, Q_X11_⟩ hb_ hon hoff
   refine ⟨_, rfl, fun K hK => ?_⟩
   have e1 : a.tmps[1]? = some (.pointer (some ⟨gb171, 0, none⟩)) := by rw [ha]; exact (putSel_off rfl).trans rfl
   replace ha := Aside0.mk ha
   have BK171 := Aside0.mk Q_BK171
   have BK177 := Aside0.mk Q_BK177
   have HB := Aside0.mk Q_HB
   have hc0_ : w'.cell? ⟨gb171, 0, none⟩ = some (.int .i64 a0_0) := (blk_cell BK171.out 0).trans rfl
   have hc1_ : w'.cell? ⟨gb171, 1, none⟩ = some (.int .i64 a0_1) := (blk_cell BK171.out 1).trans rfl
   have hc2_ : w'.cell? ⟨gb171, 2, none⟩ = some (.int .i64 a0_2) := (blk_cell BK171.out 2).trans rfl
   have hc3_ : w'.cell? ⟨gb171, 3, none⟩ = some (.int .i64 a0_3) := (blk_cell BK171.out 3).trans rfl
   have hc4_ : w'.cell? ⟨gb171, 4, none⟩ = some (.bool a0_4) := (blk_cell BK171.out 4).trans rfl
   refine value_ (w1 := w') (v := .agg #[.int .i64 a0_0, .int .i64 a0_1, .int .i64 a0_2, .int .i64 a0_3, .bool a0_4]) (by rfl) rfl ?_ ?_
   ·go_simp
    (try simp only [i64_w])
    try rfl
   refine hK.out _ _ ⟨gb187, gb188, gb189, gb190, m8_, m9_, m10_, m11_, (by rw [ha.out]; exact putSel_upk 4 hb_ rfl rfl rfl), Q_BK171, Q_BK177, Q_HB, Q_NB188_187, Q_NB187_188, Q_NB189_187, Q_NB187_189, Q_NB190_187, Q_NB187_190, Q_NB189_188, Q_NB188_189, Q_NB190_188, Q_NB188_190, Q_NB190_189, Q_NB189_190, Q_BK187, Q_GW187, Q_GE187, Q_NB171_187, Q_NB187_171, Q_NB177_187, Q_NB187_177, Q_BK188, Q_GW188, Q_GE188, Q_NB171_188, Q_NB188_171, Q_NB177_188, Q_NB188_177, Q_BK189, Q_GW189, Q_GE189, Q_NB171_189, Q_NB189_171, Q_NB177_189, Q_NB189_177, Q_BK190, Q_GW190, Q_GE190, Q_NB171_190, Q_NB190_171, Q_NB177_190, Q_NB190_177, fun h0_ => absurd ((hoff 12 (by kernel_rfl)).symm.trans h0_) (by decide), fun h0_ => absurd ((hoff 13 (by kernel_rfl)).symm.trans h0_) (by decide), fun h0_ => absurd ((hoff 14 (by kernel_rfl)).symm.trans h0_) (by decide), fun h0_ => absurd ((hoff 15 (by kernel_rfl)).symm.trans h0_) (by decide), Q_X8_, Q_X9_, Q_X10_, Q_X11_⟩
  refine steps_cons ?_ ?_
  ·rintro b a w' ⟨gb187, gb188, gb189, gb190, m8_, m9_, m10_, m11_, ha, Q_BK171, Q_BK177, Q_HB, Q_NB188_187, Q_NB187_188, Q_NB189_187, Q_NB187_189, Q_NB190_187, Q_NB187_190, Q_NB189_188, Q_NB188_189, Q_NB190_188, Q_NB188_190, Q_NB190_189, Q_NB189_190, Q_BK187, Q_GW187, Q_GE187, Q_NB171_187, Q_NB187_171, Q_NB177_187, Q_NB187_177, Q_BK188, Q_GW188, Q_GE188, Q_NB171_188, Q_NB188_171, Q_NB177_188, Q_NB188_177, Q_BK189, Q_GW189, Q_GE189, Q_NB171_189, Q_NB189_171, Q_NB177_189, Q_NB189_177, Q_BK190, Q_GW190, Q_GE190, Q_NB171_190, Q_NB190_171, Q_NB177_190, Q_NB190_177, Q_BK187_e12, Q_BK188_e13, Q_BK189_e14, Q_BK190_e15, Q_X8_, Q_X9_, Q_X10_, Q_X11_⟩ hb_ hon hoff
   refine ⟨_, rfl, fun K hK => ?_⟩
   have e17 : a.tmps[17]? = some (.agg #[.int .i64 a0_0, .int .i64 a0_1, .int .i64 a0_2, .int .i64 a0_3, .bool a0_4]) := by rw [ha]; exact putSel_on (e := (4, 17, .agg #[.int .i64 a0_0, .int .i64 a0_1, .int .i64 a0_2, .int .i64 a0_3, .bool a0_4])) 4 rfl rfl (hon 4 (by kernel_rfl)) rfl
   replace ha := Aside0.mk ha
   have BK171 := Aside0.mk Q_BK171
   have BK177 := Aside0.mk Q_BK177
   have HB := Aside0.mk Q_HB
   refine goes_ Try.func47 (by kernel_rfl) rfl #[.agg #[.int .i64 a0_0, .int .i64 a0_1, .int .i64 a0_2, .int .i64 a0_3, .bool a0_4]] (by rfl) rfl rfl (by first | (simp only [List.map_toArray, List.map_cons, List.map_nil, Act.eval, Array.getD_eq_getD_getElem?, Option.getD_some, e17]; done) | (simp only [List.map_toArray, List.map_cons, List.map_nil, Act.eval, Array.getD_eq_getD_getElem?, Option.getD_some, e17]; rfl)) ?_
   with_reducible refine (header_Header_SnapsAt.calls a0_0 a0_1 a0_2 a0_3 a0_4 t183 t184 _ A6.out).mono ?_
   rintro e w20 ⟨rfl, hb⟩
   refine ⟨_, rfl, ?_⟩
   have n0_ := Aside0.mk (blk_below (g := gb171) (o := .cells #[.int .i64 a0_0, .int .i64 a0_1, .int .i64 a0_2, .int .i64 a0_3, .bool a0_4] 69 (0, 0)) (by (with_reducible repeat (first | refine blk_drewN ?_ _ | refine blk_drew ?_ | refine blk_alloc ?_ _)); exact BK171.out) hb)
   have n1_ := Aside0.mk (blk_below (g := gb177) (o := .cells #[.int .i64 t172, .int .i64 t173, .int .i64 t174, .int .i64 t175, .bool t176] 70 (0, 0)) (by (with_reducible repeat (first | refine blk_drewN ?_ _ | refine blk_drew ?_ | refine blk_alloc ?_ _)); exact BK177.out) hb)
   have n2_ := Aside0.mk (below_step (by repeat (first | (with_reducible first | exact HB.out | apply below_alloc | apply pw_below_drewN | apply below_drew1 | refine below_set ?_ GE171.out | refine below_set ?_ GE177.out) | exact HB.out)) hb)
   have z_BK187 := fun (h0_ : b 8 = true) (h1_ : b 12 = false) => (show w20.heap[gb187]? = some (.cells #[.int .i64 0, .int .i64 0] 74 (0, 0)) from by first | exact (blk_below (g := gb187) (o := .cells #[.int .i64 0, .int .i64 0] 74 (0, 0)) (by (with_reducible repeat (first | refine blk_drewN ?_ _ | refine blk_drew ?_ | refine blk_alloc ?_ _)); exact (Q_BK187 h0_ h1_)) hb))
   have z_BK188 := fun (h0_ : b 9 = true) (h1_ : b 13 = false) => (show w20.heap[gb188]? = some (.cells #[.int .i64 0, .int .i64 0] 74 (0, 0)) from by first | exact (blk_below (g := gb188) (o := .cells #[.int .i64 0, .int .i64 0] 74 (0, 0)) (by (with_reducible repeat (first | refine blk_drewN ?_ _ | refine blk_drew ?_ | refine blk_alloc ?_ _)); exact (Q_BK188 h0_ h1_)) hb))
   have z_BK189 := fun (h0_ : b 10 = true) (h1_ : b 14 = false) => (show w20.heap[gb189]? = some (.cells #[.int .i64 0, .int .i64 0] 74 (0, 0)) from by first | exact (blk_below (g := gb189) (o := .cells #[.int .i64 0, .int .i64 0] 74 (0, 0)) (by (with_reducible repeat (first | refine blk_drewN ?_ _ | refine blk_drew ?_ | refine blk_alloc ?_ _)); exact (Q_BK189 h0_ h1_)) hb))
   have z_BK190 := fun (h0_ : b 11 = true) (h1_ : b 15 = false) => (show w20.heap[gb190]? = some (.cells #[.int .i64 0, .int .i64 0] 74 (0, 0)) from by first | exact (blk_below (g := gb190) (o := .cells #[.int .i64 0, .int .i64 0] 74 (0, 0)) (by (with_reducible repeat (first | refine blk_drewN ?_ _ | refine blk_drew ?_ | refine blk_alloc ?_ _)); exact (Q_BK190 h0_ h1_)) hb))
   clear BK171
   clear BK177
   clear HB
   have BK171 := n0_
   have BK177 := n1_
   have HB := n2_
   clear n0_ n1_ n2_
   (try clear hb)
   (try clear hb2)
   (try clear hk)
   (try clear hi)
   refine hK.out _ _ ⟨gb187, gb188, gb189, gb190, m8_, m9_, m10_, m11_, (by rw [ha.out]; exact putSel_upk 5 hb_ rfl rfl rfl), (by (with_reducible repeat (first | refine blk_drewN ?_ _ | refine blk_drew ?_ | refine blk_alloc ?_ _)); exact BK171.out), (by (with_reducible repeat (first | refine blk_drewN ?_ _ | refine blk_drew ?_ | refine blk_alloc ?_ _)); exact BK177.out), (by repeat (first | (with_reducible first | exact HB.out | apply below_alloc | apply pw_below_drewN | apply below_drew1 | refine below_set ?_ GE171.out | refine below_set ?_ GE177.out) | exact HB.out)), Q_NB188_187, Q_NB187_188, Q_NB189_187, Q_NB187_189, Q_NB190_187, Q_NB187_190, Q_NB189_188, Q_NB188_189, Q_NB190_188, Q_NB188_190, Q_NB190_189, Q_NB189_190, z_BK187, Q_GW187, Q_GE187, Q_NB171_187, Q_NB187_171, Q_NB177_187, Q_NB187_177, z_BK188, Q_GW188, Q_GE188, Q_NB171_188, Q_NB188_171, Q_NB177_188, Q_NB188_177, z_BK189, Q_GW189, Q_GE189, Q_NB171_189, Q_NB189_171, Q_NB177_189, Q_NB189_177, z_BK190, Q_GW190, Q_GE190, Q_NB171_190, Q_NB190_171, Q_NB177_190, Q_NB190_177, fun h0_ => absurd ((hoff 12 (by kernel_rfl)).symm.trans h0_) (by decide), fun h0_ => absurd ((hoff 13 (by kernel_rfl)).symm.trans h0_) (by decide), fun h0_ => absurd ((hoff 14 (by kernel_rfl)).symm.trans h0_) (by decide), fun h0_ => absurd ((hoff 15 (by kernel_rfl)).symm.trans h0_) (by decide), Q_X8_, Q_X9_, Q_X10_, Q_X11_⟩
  refine steps_cons ?_ ?_
  ·rintro b a w' ⟨gb187, gb188, gb189, gb190, m8_, m9_, m10_, m11_, ha, Q_BK171, Q_BK177, Q_HB, Q_NB188_187, Q_NB187_188, Q_NB189_187, Q_NB187_189, Q_NB190_187, Q_NB187_190, Q_NB189_188, Q_NB188_189, Q_NB190_188, Q_NB188_190, Q_NB190_189, Q_NB189_190, Q_BK187, Q_GW187, Q_GE187, Q_NB171_187, Q_NB187_171, Q_NB177_187, Q_NB187_177, Q_BK188, Q_GW188, Q_GE188, Q_NB171_188, Q_NB188_171, Q_NB177_188, Q_NB188_177, Q_BK189, Q_GW189, Q_GE189, Q_NB171_189, Q_NB189_171, Q_NB177_189, Q_NB189_177, Q_BK190, Q_GW190, Q_GE190, Q_NB171_190, Q_NB190_171, Q_NB177_190, Q_NB190_177, Q_BK187_e12, Q_BK188_e13, Q_BK189_e14, Q_BK190_e15, Q_X8_, Q_X9_, Q_X10_, Q_X11_⟩ hb_ hon hoff
   refine ⟨_, rfl, fun K hK => ?_⟩
   have e1 : a.tmps[1]? = some (.pointer (some ⟨gb171, 0, none⟩)) := by rw [ha]; exact (putSel_off rfl).trans rfl
   replace ha := Aside0.mk ha
   have BK171 := Aside0.mk Q_BK171
   have BK177 := Aside0.mk Q_BK177
   have HB := Aside0.mk Q_HB
   have hc0_ : w'.cell? ⟨gb171, 0, none⟩ = some (.int .i64 a0_0) := (blk_cell BK171.out 0).trans rfl
   have hc1_ : w'.cell? ⟨gb171, 1, none⟩ = some (.int .i64 a0_1) := (blk_cell BK171.out 1).trans rfl
   have hc2_ : w'.cell? ⟨gb171, 2, none⟩ = some (.int .i64 a0_2) := (blk_cell BK171.out 2).trans rfl
   have hc3_ : w'.cell? ⟨gb171, 3, none⟩ = some (.int .i64 a0_3) := (blk_cell BK171.out 3).trans rfl
   have hc4_ : w'.cell? ⟨gb171, 4, none⟩ = some (.bool a0_4) := (blk_cell BK171.out 4).trans rfl
   refine value_ (w1 := w') (v := .agg #[.int .i64 a0_0, .int .i64 a0_1, .int .i64 a0_2, .int .i64 a0_3, .bool a0_4]) (by rfl) rfl ?_ ?_
   ·go_simp
    (try simp only [i64_w])
    try rfl
   refine hK.out _ _ ⟨gb187, gb188, gb189, gb190, m8_, m9_, m10_, m11_, (by rw [ha.out]; exact putSel_upk 6 hb_ rfl rfl rfl), Q_BK171, Q_BK177, Q_HB, Q_NB188_187, Q_NB187_188, Q_NB189_187, Q_NB187_189, Q_NB190_187, Q_NB187_190, Q_NB189_188, Q_NB188_189, Q_NB190_188, Q_NB188_190, Q_NB190_189, Q_NB189_190, Q_BK187, Q_GW187, Q_GE187, Q_NB171_187, Q_NB187_171, Q_NB177_187, Q_NB187_177, Q_BK188, Q_GW188, Q_GE188, Q_NB171_188, Q_NB188_171, Q_NB177_188, Q_NB188_177, Q_BK189, Q_GW189, Q_GE189, Q_NB171_189, Q_NB189_171, Q_NB177_189, Q_NB189_177, Q_BK190, Q_GW190, Q_GE190, Q_NB171_190, Q_NB190_171, Q_NB177_190, Q_NB190_177, fun h0_ => absurd ((hoff 12 (by kernel_rfl)).symm.trans h0_) (by decide), fun h0_ => absurd ((hoff 13 (by kernel_rfl)).symm.trans h0_) (by decide), fun h0_ => absurd ((hoff 14 (by kernel_rfl)).symm.trans h0_) (by decide), fun h0_ => absurd ((hoff 15 (by kernel_rfl)).symm.trans h0_) (by decide), Q_X8_, Q_X9_, Q_X10_, Q_X11_⟩
  refine steps_cons ?_ ?_
  ·rintro b a w' ⟨gb187, gb188, gb189, gb190, m8_, m9_, m10_, m11_, ha, Q_BK171, Q_BK177, Q_HB, Q_NB188_187, Q_NB187_188, Q_NB189_187, Q_NB187_189, Q_NB190_187, Q_NB187_190, Q_NB189_188, Q_NB188_189, Q_NB190_188, Q_NB188_190, Q_NB190_189, Q_NB189_190, Q_BK187, Q_GW187, Q_GE187, Q_NB171_187, Q_NB187_171, Q_NB177_187, Q_NB187_177, Q_BK188, Q_GW188, Q_GE188, Q_NB171_188, Q_NB188_171, Q_NB177_188, Q_NB188_177, Q_BK189, Q_GW189, Q_GE189, Q_NB171_189, Q_NB189_171, Q_NB177_189, Q_NB189_177, Q_BK190, Q_GW190, Q_GE190, Q_NB171_190, Q_NB190_171, Q_NB177_190, Q_NB190_177, Q_BK187_e12, Q_BK188_e13, Q_BK189_e14, Q_BK190_e15, Q_X8_, Q_X9_, Q_X10_, Q_X11_⟩ hb_ hon hoff
   refine ⟨_, rfl, fun K hK => ?_⟩
   have e19 : a.tmps[19]? = some (.agg #[.int .i64 a0_0, .int .i64 a0_1, .int .i64 a0_2, .int .i64 a0_3, .bool a0_4]) := by rw [ha]; exact putSel_on (e := (6, 19, .agg #[.int .i64 a0_0, .int .i64 a0_1, .int .i64 a0_2, .int .i64 a0_3, .bool a0_4])) 6 rfl rfl (hon 6 (by kernel_rfl)) rfl
   replace ha := Aside0.mk ha
   have BK171 := Aside0.mk Q_BK171
   have BK177 := Aside0.mk Q_BK177
   have HB := Aside0.mk Q_HB
   refine goes_ Try.func48 (by kernel_rfl) rfl #[.agg #[.int .i64 a0_0, .int .i64 a0_1, .int .i64 a0_2, .int .i64 a0_3, .bool a0_4]] (by rfl) rfl rfl (by first | (simp only [List.map_toArray, List.map_cons, List.map_nil, Act.eval, Array.getD_eq_getD_getElem?, Option.getD_some, e19]; done) | (simp only [List.map_toArray, List.map_cons, List.map_nil, Act.eval, Array.getD_eq_getD_getElem?, Option.getD_some, e19]; rfl)) ?_
   with_reducible refine (header_Header_TopAt.calls a0_0 a0_1 a0_2 a0_3 a0_4 t185 t186 _ A7.out).mono ?_
   rintro e w21 ⟨rfl, hb⟩
   refine ⟨_, rfl, ?_⟩
   have n0_ := Aside0.mk (blk_below (g := gb171) (o := .cells #[.int .i64 a0_0, .int .i64 a0_1, .int .i64 a0_2, .int .i64 a0_3, .bool a0_4] 69 (0, 0)) (by (with_reducible repeat (first | refine blk_drewN ?_ _ | refine blk_drew ?_ | refine blk_alloc ?_ _)); exact BK171.out) hb)
   have n1_ := Aside0.mk (blk_below (g := gb177) (o := .cells #[.int .i64 t172, .int .i64 t173, .int .i64 t174, .int .i64 t175, .bool t176] 70 (0, 0)) (by (with_reducible repeat (first | refine blk_drewN ?_ _ | refine blk_drew ?_ | refine blk_alloc ?_ _)); exact BK177.out) hb)
   have n2_ := Aside0.mk (below_step (by repeat (first | (with_reducible first | exact HB.out | apply below_alloc | apply pw_below_drewN | apply below_drew1 | refine below_set ?_ GE171.out | refine below_set ?_ GE177.out) | exact HB.out)) hb)
   have z_BK187 := fun (h0_ : b 8 = true) (h1_ : b 12 = false) => (show w21.heap[gb187]? = some (.cells #[.int .i64 0, .int .i64 0] 74 (0, 0)) from by first | exact (blk_below (g := gb187) (o := .cells #[.int .i64 0, .int .i64 0] 74 (0, 0)) (by (with_reducible repeat (first | refine blk_drewN ?_ _ | refine blk_drew ?_ | refine blk_alloc ?_ _)); exact (Q_BK187 h0_ h1_)) hb))
   have z_BK188 := fun (h0_ : b 9 = true) (h1_ : b 13 = false) => (show w21.heap[gb188]? = some (.cells #[.int .i64 0, .int .i64 0] 74 (0, 0)) from by first | exact (blk_below (g := gb188) (o := .cells #[.int .i64 0, .int .i64 0] 74 (0, 0)) (by (with_reducible repeat (first | refine blk_drewN ?_ _ | refine blk_drew ?_ | refine blk_alloc ?_ _)); exact (Q_BK188 h0_ h1_)) hb))
   have z_BK189 := fun (h0_ : b 10 = true) (h1_ : b 14 = false) => (show w21.heap[gb189]? = some (.cells #[.int .i64 0, .int .i64 0] 74 (0, 0)) from by first | exact (blk_below (g := gb189) (o := .cells #[.int .i64 0, .int .i64 0] 74 (0, 0)) (by (with_reducible repeat (first | refine blk_drewN ?_ _ | refine blk_drew ?_ | refine blk_alloc ?_ _)); exact (Q_BK189 h0_ h1_)) hb))
   have z_BK190 := fun (h0_ : b 11 = true) (h1_ : b 15 = false) => (show w21.heap[gb190]? = some (.cells #[.int .i64 0, .int .i64 0] 74 (0, 0)) from by first | exact (blk_below (g := gb190) (o := .cells #[.int .i64 0, .int .i64 0] 74 (0, 0)) (by (with_reducible repeat (first | refine blk_drewN ?_ _ | refine blk_drew ?_ | refine blk_alloc ?_ _)); exact (Q_BK190 h0_ h1_)) hb))
   clear BK171
   clear BK177
   clear HB
   have BK171 := n0_
   have BK177 := n1_
   have HB := n2_
   clear n0_ n1_ n2_
   (try clear hb)
   (try clear hb2)
   (try clear hk)
   (try clear hi)
   refine hK.out _ _ ⟨gb187, gb188, gb189, gb190, m8_, m9_, m10_, m11_, (by rw [ha.out]; exact putSel_upk 7 hb_ rfl rfl rfl), (by (with_reducible repeat (first | refine blk_drewN ?_ _ | refine blk_drew ?_ | refine blk_alloc ?_ _)); exact BK171.out), (by (with_reducible repeat (first | refine blk_drewN ?_ _ | refine blk_drew ?_ | refine blk_alloc ?_ _)); exact BK177.out), (by repeat (first | (with_reducible first | exact HB.out | apply below_alloc | apply pw_below_drewN | apply below_drew1 | refine below_set ?_ GE171.out | refine below_set ?_ GE177.out) | exact HB.out)), Q_NB188_187, Q_NB187_188, Q_NB189_187, Q_NB187_189, Q_NB190_187, Q_NB187_190, Q_NB189_188, Q_NB188_189, Q_NB190_188, Q_NB188_190, Q_NB190_189, Q_NB189_190, z_BK187, Q_GW187, Q_GE187, Q_NB171_187, Q_NB187_171, Q_NB177_187, Q_NB187_177, z_BK188, Q_GW188, Q_GE188, Q_NB171_188, Q_NB188_171, Q_NB177_188, Q_NB188_177, z_BK189, Q_GW189, Q_GE189, Q_NB171_189, Q_NB189_171, Q_NB177_189, Q_NB189_177, z_BK190, Q_GW190, Q_GE190, Q_NB171_190, Q_NB190_171, Q_NB177_190, Q_NB190_177, fun h0_ => absurd ((hoff 12 (by kernel_rfl)).symm.trans h0_) (by decide), fun h0_ => absurd ((hoff 13 (by kernel_rfl)).symm.trans h0_) (by decide), fun h0_ => absurd ((hoff 14 (by kernel_rfl)).symm.trans h0_) (by decide), fun h0_ => absurd ((hoff 15 (by kernel_rfl)).symm.trans h0_) (by decide), Q_X8_, Q_X9_, Q_X10_, Q_X11_⟩
  refine steps_cons ?_ ?_
  ·rintro b a w' ⟨gb187, gb188, gb189, gb190, m8_, m9_, m10_, m11_, ha, Q_BK171, Q_BK177, Q_HB, Q_NB188_187, Q_NB187_188, Q_NB189_187, Q_NB187_189, Q_NB190_187, Q_NB187_190, Q_NB189_188, Q_NB188_189, Q_NB190_188, Q_NB188_190, Q_NB190_189, Q_NB189_190, Q_BK187, Q_GW187, Q_GE187, Q_NB171_187, Q_NB187_171, Q_NB177_187, Q_NB187_177, Q_BK188, Q_GW188, Q_GE188, Q_NB171_188, Q_NB188_171, Q_NB177_188, Q_NB188_177, Q_BK189, Q_GW189, Q_GE189, Q_NB171_189, Q_NB189_171, Q_NB177_189, Q_NB189_177, Q_BK190, Q_GW190, Q_GE190, Q_NB171_190, Q_NB190_171, Q_NB177_190, Q_NB190_177, Q_BK187_e12, Q_BK188_e13, Q_BK189_e14, Q_BK190_e15, Q_X8_, Q_X9_, Q_X10_, Q_X11_⟩ hb_ hon hoff
   refine ⟨_, rfl, fun K hK => ?_⟩
   replace ha := Aside0.mk ha
   have BK171 := Aside0.mk Q_BK171
   have BK177 := Aside0.mk Q_BK177
   have HB := Aside0.mk Q_HB
   refine box_step ?hg (N := 5) ?hd (cs := #[.int .i64 0, .int .i64 0]) (t := 74) ?hr ?_; (case hd => rfl); (case hg => rfl); (case hr => first | (go_simp; done) | (go_simp; rfl))
   intro gb187 hg w17 hbox hb
   have n0_ := Aside0.mk (blk_below (g := gb171) (o := .cells #[.int .i64 a0_0, .int .i64 a0_1, .int .i64 a0_2, .int .i64 a0_3, .bool a0_4] 69 (0, 0)) (by (with_reducible repeat (first | refine blk_drewN ?_ _ | refine blk_drew ?_ | refine blk_alloc ?_ _)); exact BK171.out) hb)
   have n1_ := Aside0.mk (blk_below (g := gb177) (o := .cells #[.int .i64 t172, .int .i64 t173, .int .i64 t174, .int .i64 t175, .bool t176] 70 (0, 0)) (by (with_reducible repeat (first | refine blk_drewN ?_ _ | refine blk_drew ?_ | refine blk_alloc ?_ _)); exact BK177.out) hb)
   have n2_ := Aside0.mk (below_step (by repeat (first | (with_reducible first | exact HB.out | apply below_alloc | apply pw_below_drewN | apply below_drew1 | refine below_set ?_ GE171.out | refine below_set ?_ GE177.out) | exact HB.out)) hb)
   have n3_ := Aside0.mk (hbox)
   have n4_ := Aside0.mk ((by rw [hg]; exact (below_size (by repeat (first | (with_reducible first | exact HB.out | apply below_alloc | apply pw_below_drewN | apply below_drew1 | refine below_set ?_ GE171.out | refine below_set ?_ GE177.out) | exact HB.out))) : w.heap.size ≤ gb187))
   have n5_ := Aside0.mk ((by rw [hg]; exact (below_size (by repeat (first | (with_reducible first | exact HB.out | apply below_alloc | apply pw_below_drewN | apply below_drew1 | refine below_set ?_ GE171.out | refine below_set ?_ GE177.out) | exact HB.out))) : w.heap.size ≤ gb187))
   have n6_ := Aside0.mk ((by rw [hg]; exact Nat.ne_of_lt (blk_lt (g := gb171) (o := .cells #[.int .i64 a0_0, .int .i64 a0_1, .int .i64 a0_2, .int .i64 a0_3, .bool a0_4] 69 (0, 0)) (by (with_reducible repeat (first | refine blk_drewN ?_ _ | refine blk_drew ?_ | refine blk_alloc ?_ _)); exact BK171.out)) : gb171 ≠ gb187))
   have n7_ := Aside0.mk ((by rw [hg]; exact Nat.ne_of_gt (blk_lt (g := gb171) (o := .cells #[.int .i64 a0_0, .int .i64 a0_1, .int .i64 a0_2, .int .i64 a0_3, .bool a0_4] 69 (0, 0)) (by (with_reducible repeat (first | refine blk_drewN ?_ _ | refine blk_drew ?_ | refine blk_alloc ?_ _)); exact BK171.out)) : gb187 ≠ gb171))
   have n8_ := Aside0.mk ((by rw [hg]; exact Nat.ne_of_lt (blk_lt (g := gb177) (o := .cells #[.int .i64 t172, .int .i64 t173, .int .i64 t174, .int .i64 t175, .bool t176] 70 (0, 0)) (by (with_reducible repeat (first | refine blk_drewN ?_ _ | refine blk_drew ?_ | refine blk_alloc ?_ _)); exact BK177.out)) : gb177 ≠ gb187))
   have n9_ := Aside0.mk ((by rw [hg]; exact Nat.ne_of_gt (blk_lt (g := gb177) (o := .cells #[.int .i64 t172, .int .i64 t173, .int .i64 t174, .int .i64 t175, .bool t176] 70 (0, 0)) (by (with_reducible repeat (first | refine blk_drewN ?_ _ | refine blk_drew ?_ | refine blk_alloc ?_ _)); exact BK177.out)) : gb187 ≠ gb177))
   have z_NB188_187 := fun (h0_ : up b 8 8 = true) (h1_ : up b 8 9 = true) => (show gb188 ≠ gb187 from ((by rw [hg]; exact Nat.ne_of_lt (blk_lt (g := gb188) (o := .cells #[.int .i64 0, .int .i64 0] 74 (0, 0)) (by (with_reducible repeat (first | refine blk_drewN ?_ _ | refine blk_drew ?_ | refine blk_alloc ?_ _)); exact (Q_BK188 h1_ (hoff 13 (by kernel_rfl))))) : gb188 ≠ gb187)))
   have z_NB187_188 := fun (h0_ : up b 8 8 = true) (h1_ : up b 8 9 = true) => (show gb187 ≠ gb188 from ((by rw [hg]; exact Nat.ne_of_gt (blk_lt (g := gb188) (o := .cells #[.int .i64 0, .int .i64 0] 74 (0, 0)) (by (with_reducible repeat (first | refine blk_drewN ?_ _ | refine blk_drew ?_ | refine blk_alloc ?_ _)); exact (Q_BK188 h1_ (hoff 13 (by kernel_rfl))))) : gb187 ≠ gb188)))
   have z_NB189_187 := fun (h0_ : up b 8 8 = true) (h1_ : up b 8 10 = true) => (show gb189 ≠ gb187 from ((by rw [hg]; exact Nat.ne_of_lt (blk_lt (g := gb189) (o := .cells #[.int .i64 0, .int .i64 0] 74 (0, 0)) (by (with_reducible repeat (first | refine blk_drewN ?_ _ | refine blk_drew ?_ | refine blk_alloc ?_ _)); exact (Q_BK189 h1_ (hoff 14 (by kernel_rfl))))) : gb189 ≠ gb187)))
   have z_NB187_189 := fun (h0_ : up b 8 8 = true) (h1_ : up b 8 10 = true) => (show gb187 ≠ gb189 from ((by rw [hg]; exact Nat.ne_of_gt (blk_lt (g := gb189) (o := .cells #[.int .i64 0, .int .i64 0] 74 (0, 0)) (by (with_reducible repeat (first | refine blk_drewN ?_ _ | refine blk_drew ?_ | refine blk_alloc ?_ _)); exact (Q_BK189 h1_ (hoff 14 (by kernel_rfl))))) : gb187 ≠ gb189)))
   have z_NB190_187 := fun (h0_ : up b 8 8 = true) (h1_ : up b 8 11 = true) => (show gb190 ≠ gb187 from ((by rw [hg]; exact Nat.ne_of_lt (blk_lt (g := gb190) (o := .cells #[.int .i64 0, .int .i64 0] 74 (0, 0)) (by (with_reducible repeat (first | refine blk_drewN ?_ _ | refine blk_drew ?_ | refine blk_alloc ?_ _)); exact (Q_BK190 h1_ (hoff 15 (by kernel_rfl))))) : gb190 ≠ gb187)))
   have z_NB187_190 := fun (h0_ : up b 8 8 = true) (h1_ : up b 8 11 = true) => (show gb187 ≠ gb190 from ((by rw [hg]; exact Nat.ne_of_gt (blk_lt (g := gb190) (o := .cells #[.int .i64 0, .int .i64 0] 74 (0, 0)) (by (with_reducible repeat (first | refine blk_drewN ?_ _ | refine blk_drew ?_ | refine blk_alloc ?_ _)); exact (Q_BK190 h1_ (hoff 15 (by kernel_rfl))))) : gb187 ≠ gb190)))
   have z_BK188 := fun (h0_ : b 9 = true) (h1_ : b 13 = false) => (show w17.heap[gb188]? = some (.cells #[.int .i64 0, .int .i64 0] 74 (0, 0)) from by first | exact (blk_below (g := gb188) (o := .cells #[.int .i64 0, .int .i64 0] 74 (0, 0)) (by (with_reducible repeat (first | refine blk_drewN ?_ _ | refine blk_drew ?_ | refine blk_alloc ?_ _)); exact (Q_BK188 h0_ h1_)) hb))
   have z_BK189 := fun (h0_ : b 10 = true) (h1_ : b 14 = false) => (show w17.heap[gb189]? = some (.cells #[.int .i64 0, .int .i64 0] 74 (0, 0)) from by first | exact (blk_below (g := gb189) (o := .cells #[.int .i64 0, .int .i64 0] 74 (0, 0)) (by (with_reducible repeat (first | refine blk_drewN ?_ _ | refine blk_drew ?_ | refine blk_alloc ?_ _)); exact (Q_BK189 h0_ h1_)) hb))
   have z_BK190 := fun (h0_ : b 11 = true) (h1_ : b 15 = false) => (show w17.heap[gb190]? = some (.cells #[.int .i64 0, .int .i64 0] 74 (0, 0)) from by first | exact (blk_below (g := gb190) (o := .cells #[.int .i64 0, .int .i64 0] 74 (0, 0)) (by (with_reducible repeat (first | refine blk_drewN ?_ _ | refine blk_drew ?_ | refine blk_alloc ?_ _)); exact (Q_BK190 h0_ h1_)) hb))
   clear BK171
   clear BK177
   clear HB
   have BK171 := n0_
   have BK177 := n1_
   have HB := n2_
   have BK187 := n3_
   have GW187 := n4_
   have GE187 := n5_
   have NB171_187 := n6_
   have NB187_171 := n7_
   have NB177_187 := n8_
   have NB187_177 := n9_
   clear n0_ n1_ n2_ n3_ n4_ n5_ n6_ n7_ n8_ n9_
   clear hb hbox hg
   refine hK.out _ _ ⟨gb187, gb188, gb189, gb190, (.pointer (some ⟨gb187, 0, none⟩)), m9_, m10_, m11_, (by rw [ha.out]; exact putSel_upk 8 hb_ rfl rfl rfl), (by (with_reducible repeat (first | refine blk_drewN ?_ _ | refine blk_drew ?_ | refine blk_alloc ?_ _)); exact BK171.out), (by (with_reducible repeat (first | refine blk_drewN ?_ _ | refine blk_drew ?_ | refine blk_alloc ?_ _)); exact BK177.out), (by repeat (first | (with_reducible first | exact HB.out | apply below_alloc | apply pw_below_drewN | apply below_drew1 | refine below_set ?_ GE171.out | refine below_set ?_ GE177.out | refine below_set ?_ GE187.out) | exact HB.out)), z_NB188_187, z_NB187_188, z_NB189_187, z_NB187_189, z_NB190_187, z_NB187_190, Q_NB189_188, Q_NB188_189, Q_NB190_188, Q_NB188_190, Q_NB190_189, Q_NB189_190, fun _ _ => (by (with_reducible repeat (first | refine blk_drewN ?_ _ | refine blk_drew ?_ | refine blk_alloc ?_ _)); exact BK187.out), fun _ => GW187.out, fun _ => GE187.out, fun _ => NB171_187.out, fun _ => NB187_171.out, fun _ => NB177_187.out, fun _ => NB187_177.out, z_BK188, Q_GW188, Q_GE188, Q_NB171_188, Q_NB188_171, Q_NB177_188, Q_NB188_177, z_BK189, Q_GW189, Q_GE189, Q_NB171_189, Q_NB189_171, Q_NB177_189, Q_NB189_177, z_BK190, Q_GW190, Q_GE190, Q_NB171_190, Q_NB190_171, Q_NB177_190, Q_NB190_177, fun h0_ => absurd ((hoff 12 (by kernel_rfl)).symm.trans h0_) (by decide), fun h0_ => absurd ((hoff 13 (by kernel_rfl)).symm.trans h0_) (by decide), fun h0_ => absurd ((hoff 14 (by kernel_rfl)).symm.trans h0_) (by decide), fun h0_ => absurd ((hoff 15 (by kernel_rfl)).symm.trans h0_) (by decide), fun _ => rfl, Q_X9_, Q_X10_, Q_X11_⟩
  refine steps_cons ?_ ?_
  ·rintro b a w' ⟨gb187, gb188, gb189, gb190, m8_, m9_, m10_, m11_, ha, Q_BK171, Q_BK177, Q_HB, Q_NB188_187, Q_NB187_188, Q_NB189_187, Q_NB187_189, Q_NB190_187, Q_NB187_190, Q_NB189_188, Q_NB188_189, Q_NB190_188, Q_NB188_190, Q_NB190_189, Q_NB189_190, Q_BK187, Q_GW187, Q_GE187, Q_NB171_187, Q_NB187_171, Q_NB177_187, Q_NB187_177, Q_BK188, Q_GW188, Q_GE188, Q_NB171_188, Q_NB188_171, Q_NB177_188, Q_NB188_177, Q_BK189, Q_GW189, Q_GE189, Q_NB171_189, Q_NB189_171, Q_NB177_189, Q_NB189_177, Q_BK190, Q_GW190, Q_GE190, Q_NB171_190, Q_NB190_171, Q_NB177_190, Q_NB190_177, Q_BK187_e12, Q_BK188_e13, Q_BK189_e14, Q_BK190_e15, Q_X8_, Q_X9_, Q_X10_, Q_X11_⟩ hb_ hon hoff
   refine ⟨_, rfl, fun K hK => ?_⟩
   replace ha := Aside0.mk ha
   have BK171 := Aside0.mk Q_BK171
   have BK177 := Aside0.mk Q_BK177
   have HB := Aside0.mk Q_HB
   refine box_step ?hg (N := 6) ?hd (cs := #[.int .i64 0, .int .i64 0]) (t := 74) ?hr ?_; (case hd => rfl); (case hg => rfl); (case hr => first | (go_simp; done) | (go_simp; rfl))
   intro gb188 hg w17 hbox hb
   have n0_ := Aside0.mk (blk_below (g := gb171) (o := .cells #[.int .i64 a0_0, .int .i64 a0_1, .int .i64 a0_2, .int .i64 a0_3, .bool a0_4] 69 (0, 0)) (by (with_reducible repeat (first | refine blk_drewN ?_ _ | refine blk_drew ?_ | refine blk_alloc ?_ _)); exact BK171.out) hb)
   have n1_ := Aside0.mk (blk_below (g := gb177) (o := .cells #[.int .i64 t172, .int .i64 t173, .int .i64 t174, .int .i64 t175, .bool t176] 70 (0, 0)) (by (with_reducible repeat (first | refine blk_drewN ?_ _ | refine blk_drew ?_ | refine blk_alloc ?_ _)); exact BK177.out) hb)
   have n2_ := Aside0.mk (below_step (by repeat (first | (with_reducible first | exact HB.out | apply below_alloc | apply pw_below_drewN | apply below_drew1 | refine below_set ?_ GE171.out | refine below_set ?_ GE177.out) | exact HB.out)) hb)
   have n3_ := Aside0.mk (hbox)
   have n4_ := Aside0.mk ((by rw [hg]; exact (below_size (by repeat (first | (with_reducible first | exact HB.out | apply below_alloc | apply pw_below_drewN | apply below_drew1 | refine below_set ?_ GE171.out | refine below_set ?_ GE177.out) | exact HB.out))) : w.heap.size ≤ gb188))
   have n5_ := Aside0.mk ((by rw [hg]; exact (below_size (by repeat (first | (with_reducible first | exact HB.out | apply below_alloc | apply pw_below_drewN | apply below_drew1 | refine below_set ?_ GE171.out | refine below_set ?_ GE177.out) | exact HB.out))) : w.heap.size ≤ gb188))
   have n6_ := Aside0.mk ((by rw [hg]; exact Nat.ne_of_lt (blk_lt (g := gb171) (o := .cells #[.int .i64 a0_0, .int .i64 a0_1, .int .i64 a0_2, .int .i64 a0_3, .bool a0_4] 69 (0, 0)) (by (with_reducible repeat (first | refine blk_drewN ?_ _ | refine blk_drew ?_ | refine blk_alloc ?_ _)); exact BK171.out)) : gb171 ≠ gb188))
   have n7_ := Aside0.mk ((by rw [hg]; exact Nat.ne_of_gt (blk_lt (g := gb171) (o := .cells #[.int .i64 a0_0, .int .i64 a0_1, .int .i64 a0_2, .int .i64 a0_3, .bool a0_4] 69 (0, 0)) (by (with_reducible repeat (first | refine blk_drewN ?_ _ | refine blk_drew ?_ | refine blk_alloc ?_ _)); exact BK171.out)) : gb188 ≠ gb171))
   have n8_ := Aside0.mk ((by rw [hg]; exact Nat.ne_of_lt (blk_lt (g := gb177) (o := .cells #[.int .i64 t172, .int .i64 t173, .int .i64 t174, .int .i64 t175, .bool t176] 70 (0, 0)) (by (with_reducible repeat (first | refine blk_drewN ?_ _ | refine blk_drew ?_ | refine blk_alloc ?_ _)); exact BK177.out)) : gb177 ≠ gb188))
   have n9_ := Aside0.mk ((by rw [hg]; exact Nat.ne_of_gt (blk_lt (g := gb177) (o := .cells #[.int .i64 t172, .int .i64 t173, .int .i64 t174, .int .i64 t175, .bool t176] 70 (0, 0)) (by (with_reducible repeat (first | refine blk_drewN ?_ _ | refine blk_drew ?_ | refine blk_alloc ?_ _)); exact BK177.out)) : gb188 ≠ gb177))
   have z_NB188_187 := fun (h0_ : up b 9 8 = true) (h1_ : up b 9 9 = true) => (show gb188 ≠ gb187 from ((by rw [hg]; exact Nat.ne_of_gt (blk_lt (g := gb187) (o := .cells #[.int .i64 0, .int .i64 0] 74 (0, 0)) (by (with_reducible repeat (first | refine blk_drewN ?_ _ | refine blk_drew ?_ | refine blk_alloc ?_ _)); exact (Q_BK187 h0_ (hoff 12 (by kernel_rfl))))) : gb188 ≠ gb187)))
   have z_NB187_188 := fun (h0_ : up b 9 8 = true) (h1_ : up b 9 9 = true) => (show gb187 ≠ gb188 from ((by rw [hg]; exact Nat.ne_of_lt (blk_lt (g := gb187) (o := .cells #[.int .i64 0, .int .i64 0] 74 (0, 0)) (by (with_reducible repeat (first | refine blk_drewN ?_ _ | refine blk_drew ?_ | refine blk_alloc ?_ _)); exact (Q_BK187 h0_ (hoff 12 (by kernel_rfl))))) : gb187 ≠ gb188)))
   have z_NB189_188 := fun (h0_ : up b 9 9 = true) (h1_ : up b 9 10 = true) => (show gb189 ≠ gb188 from ((by rw [hg]; exact Nat.ne_of_lt (blk_lt (g := gb189) (o := .cells #[.int .i64 0, .int .i64 0] 74 (0, 0)) (by (with_reducible repeat (first | refine blk_drewN ?_ _ | refine blk_drew ?_ | refine blk_alloc ?_ _)); exact (Q_BK189 h1_ (hoff 14 (by kernel_rfl))))) : gb189 ≠ gb188)))
   have z_NB188_189 := fun (h0_ : up b 9 9 = true) (h1_ : up b 9 10 = true) => (show gb188 ≠ gb189 from ((by rw [hg]; exact Nat.ne_of_gt (blk_lt (g := gb189) (o := .cells #[.int .i64 0, .int .i64 0] 74 (0, 0)) (by (with_reducible repeat (first | refine blk_drewN ?_ _ | refine blk_drew ?_ | refine blk_alloc ?_ _)); exact (Q_BK189 h1_ (hoff 14 (by kernel_rfl))))) : gb188 ≠ gb189)))
   have z_NB190_188 := fun (h0_ : up b 9 9 = true) (h1_ : up b 9 11 = true) => (show gb190 ≠ gb188 from ((by rw [hg]; exact Nat.ne_of_lt (blk_lt (g := gb190) (o := .cells #[.int .i64 0, .int .i64 0] 74 (0, 0)) (by (with_reducible repeat (first | refine blk_drewN ?_ _ | refine blk_drew ?_ | refine blk_alloc ?_ _)); exact (Q_BK190 h1_ (hoff 15 (by kernel_rfl))))) : gb190 ≠ gb188)))
   have z_NB188_190 := fun (h0_ : up b 9 9 = true) (h1_ : up b 9 11 = true) => (show gb188 ≠ gb190 from ((by rw [hg]; exact Nat.ne_of_gt (blk_lt (g := gb190) (o := .cells #[.int .i64 0, .int .i64 0] 74 (0, 0)) (by (with_reducible repeat (first | refine blk_drewN ?_ _ | refine blk_drew ?_ | refine blk_alloc ?_ _)); exact (Q_BK190 h1_ (hoff 15 (by kernel_rfl))))) : gb188 ≠ gb190)))
   have z_BK187 := fun (h0_ : b 8 = true) (h1_ : b 12 = false) => (show w17.heap[gb187]? = some (.cells #[.int .i64 0, .int .i64 0] 74 (0, 0)) from by first | exact (blk_below (g := gb187) (o := .cells #[.int .i64 0, .int .i64 0] 74 (0, 0)) (by (with_reducible repeat (first | refine blk_drewN ?_ _ | refine blk_drew ?_ | refine blk_alloc ?_ _)); exact (Q_BK187 h0_ h1_)) hb))
   have z_BK189 := fun (h0_ : b 10 = true) (h1_ : b 14 = false) => (show w17.heap[gb189]? = some (.cells #[.int .i64 0, .int .i64 0] 74 (0, 0)) from by first | exact (blk_below (g := gb189) (o := .cells #[.int .i64 0, .int .i64 0] 74 (0, 0)) (by (with_reducible repeat (first | refine blk_drewN ?_ _ | refine blk_drew ?_ | refine blk_alloc ?_ _)); exact (Q_BK189 h0_ h1_)) hb))
   have z_BK190 := fun (h0_ : b 11 = true) (h1_ : b 15 = false) => (show w17.heap[gb190]? = some (.cells #[.int .i64 0, .int .i64 0] 74 (0, 0)) from by first | exact (blk_below (g := gb190) (o := .cells #[.int .i64 0, .int .i64 0] 74 (0, 0)) (by (with_reducible repeat (first | refine blk_drewN ?_ _ | refine blk_drew ?_ | refine blk_alloc ?_ _)); exact (Q_BK190 h0_ h1_)) hb))
   clear BK171
   clear BK177
   clear HB
   have BK171 := n0_
   have BK177 := n1_
   have HB := n2_
   have BK188 := n3_
   have GW188 := n4_
   have GE188 := n5_
   have NB171_188 := n6_
   have NB188_171 := n7_
   have NB177_188 := n8_
   have NB188_177 := n9_
   clear n0_ n1_ n2_ n3_ n4_ n5_ n6_ n7_ n8_ n9_
   clear hb hbox hg
   refine hK.out _ _ ⟨gb187, gb188, gb189, gb190, m8_, (.pointer (some ⟨gb188, 0, none⟩)), m10_, m11_, (by rw [ha.out]; exact putSel_upk 9 hb_ rfl rfl rfl), (by (with_reducible repeat (first | refine blk_drewN ?_ _ | refine blk_drew ?_ | refine blk_alloc ?_ _)); exact BK171.out), (by (with_reducible repeat (first | refine blk_drewN ?_ _ | refine blk_drew ?_ | refine blk_alloc ?_ _)); exact BK177.out), (by repeat (first | (with_reducible first | exact HB.out | apply below_alloc | apply pw_below_drewN | apply below_drew1 | refine below_set ?_ GE171.out | refine below_set ?_ GE177.out | refine below_set ?_ GE188.out) | exact HB.out)), z_NB188_187, z_NB187_188, Q_NB189_187, Q_NB187_189, Q_NB190_187, Q_NB187_190, z_NB189_188, z_NB188_189, z_NB190_188, z_NB188_190, Q_NB190_189, Q_NB189_190, z_BK187, Q_GW187, Q_GE187, Q_NB171_187, Q_NB187_171, Q_NB177_187, Q_NB187_177, fun _ _ => (by (with_reducible repeat (first | refine blk_drewN ?_ _ | refine blk_drew ?_ | refine blk_alloc ?_ _)); exact BK188.out), fun _ => GW188.out, fun _ => GE188.out, fun _ => NB171_188.out, fun _ => NB188_171.out, fun _ => NB177_188.out, fun _ => NB188_177.out, z_BK189, Q_GW189, Q_GE189, Q_NB171_189, Q_NB189_171, Q_NB177_189, Q_NB189_177, z_BK190, Q_GW190, Q_GE190, Q_NB171_190, Q_NB190_171, Q_NB177_190, Q_NB190_177, fun h0_ => absurd ((hoff 12 (by kernel_rfl)).symm.trans h0_) (by decide), fun h0_ => absurd ((hoff 13 (by kernel_rfl)).symm.trans h0_) (by decide), fun h0_ => absurd ((hoff 14 (by kernel_rfl)).symm.trans h0_) (by decide), fun h0_ => absurd ((hoff 15 (by kernel_rfl)).symm.trans h0_) (by decide), Q_X8_, fun _ => rfl, Q_X10_, Q_X11_⟩
  refine steps_cons ?_ ?_
  ·rintro b a w' ⟨gb187, gb188, gb189, gb190, m8_, m9_, m10_, m11_, ha, Q_BK171, Q_BK177, Q_HB, Q_NB188_187, Q_NB187_188, Q_NB189_187, Q_NB187_189, Q_NB190_187, Q_NB187_190, Q_NB189_188, Q_NB188_189, Q_NB190_188, Q_NB188_190, Q_NB190_189, Q_NB189_190, Q_BK187, Q_GW187, Q_GE187, Q_NB171_187, Q_NB187_171, Q_NB177_187, Q_NB187_177, Q_BK188, Q_GW188, Q_GE188, Q_NB171_188, Q_NB188_171, Q_NB177_188, Q_NB188_177, Q_BK189, Q_GW189, Q_GE189, Q_NB171_189, Q_NB189_171, Q_NB177_189, Q_NB189_177, Q_BK190, Q_GW190, Q_GE190, Q_NB171_190, Q_NB190_171, Q_NB177_190, Q_NB190_177, Q_BK187_e12, Q_BK188_e13, Q_BK189_e14, Q_BK190_e15, Q_X8_, Q_X9_, Q_X10_, Q_X11_⟩ hb_ hon hoff
   refine ⟨_, rfl, fun K hK => ?_⟩
   replace ha := Aside0.mk ha
   have BK171 := Aside0.mk Q_BK171
   have BK177 := Aside0.mk Q_BK177
   have HB := Aside0.mk Q_HB
   refine box_step ?hg (N := 7) ?hd (cs := #[.int .i64 0, .int .i64 0]) (t := 74) ?hr ?_; (case hd => rfl); (case hg => rfl); (case hr => first | (go_simp; done) | (go_simp; rfl))
   intro gb189 hg w17 hbox hb
   have n0_ := Aside0.mk (blk_below (g := gb171) (o := .cells #[.int .i64 a0_0, .int .i64 a0_1, .int .i64 a0_2, .int .i64 a0_3, .bool a0_4] 69 (0, 0)) (by (with_reducible repeat (first | refine blk_drewN ?_ _ | refine blk_drew ?_ | refine blk_alloc ?_ _)); exact BK171.out) hb)
   have n1_ := Aside0.mk (blk_below (g := gb177) (o := .cells #[.int .i64 t172, .int .i64 t173, .int .i64 t174, .int .i64 t175, .bool t176] 70 (0, 0)) (by (with_reducible repeat (first | refine blk_drewN ?_ _ | refine blk_drew ?_ | refine blk_alloc ?_ _)); exact BK177.out) hb)
   have n2_ := Aside0.mk (below_step (by repeat (first | (with_reducible first | exact HB.out | apply below_alloc | apply pw_below_drewN | apply below_drew1 | refine below_set ?_ GE171.out | refine below_set ?_ GE177.out) | exact HB.out)) hb)
   have n3_ := Aside0.mk (hbox)
   have n4_ := Aside0.mk ((by rw [hg]; exact (below_size (by repeat (first | (with_reducible first | exact HB.out | apply below_alloc | apply pw_below_drewN | apply below_drew1 | refine below_set ?_ GE171.out | refine below_set ?_ GE177.out) | exact HB.out))) : w.heap.size ≤ gb189))
   have n5_ := Aside0.mk ((by rw [hg]; exact (below_size (by repeat (first | (with_reducible first | exact HB.out | apply below_alloc | apply pw_below_drewN | apply below_drew1 | refine below_set ?_ GE171.out | refine below_set ?_ GE177.out) | exact HB.out))) : w.heap.size ≤ gb189))
   have n6_ := Aside0.mk ((by rw [hg]; exact Nat.ne_of_lt (blk_lt (g := gb171) (o := .cells #[.int .i64 a0_0, .int .i64 a0_1, .int .i64 a0_2, .int .i64 a0_3, .bool a0_4] 69 (0, 0)) (by (with_reducible repeat (first | refine blk_drewN ?_ _ | refine blk_drew ?_ | refine blk_alloc ?_ _)); exact BK171.out)) : gb171 ≠ gb189))
   have n7_ := Aside0.mk ((by rw [hg]; exact Nat.ne_of_gt (blk_lt (g := gb171) (o := .cells #[.int .i64 a0_0, .int .i64 a0_1, .int .i64 a0_2, .int .i64 a0_3, .bool a0_4] 69 (0, 0)) (by (with_reducible repeat (first | refine blk_drewN ?_ _ | refine blk_drew ?_ | refine blk_alloc ?_ _)); exact BK171.out)) : gb189 ≠ gb171))
   have n8_ := Aside0.mk ((by rw [hg]; exact Nat.ne_of_lt (blk_lt (g := gb177) (o := .cells #[.int .i64 t172, .int .i64 t173, .int .i64 t174, .int .i64 t175, .bool t176] 70 (0, 0)) (by (with_reducible repeat (first | refine blk_drewN ?_ _ | refine blk_drew ?_ | refine blk_alloc ?_ _)); exact BK177.out)) : gb177 ≠ gb189))
   have n9_ := Aside0.mk ((by rw [hg]; exact Nat.ne_of_gt (blk_lt (g := gb177) (o := .cells #[.int .i64 t172, .int .i64 t173, .int .i64 t174, .int .i64 t175, .bool t176] 70 (0, 0)) (by (with_reducible repeat (first | refine blk_drewN ?_ _ | refine blk_drew ?_ | refine blk_alloc ?_ _)); exact BK177.out)) : gb189 ≠ gb177))
   have z_NB189_187 := fun (h0_ : up b 10 8 = true) (h1_ : up b 10 10 = true) => (show gb189 ≠ gb187 from ((by rw [hg]; exact Nat.ne_of_gt (blk_lt (g := gb187) (o := .cells #[.int .i64 0, .int .i64 0] 74 (0, 0)) (by (with_reducible repeat (first | refine blk_drewN ?_ _ | refine blk_drew ?_ | refine blk_alloc ?_ _)); exact (Q_BK187 h0_ (hoff 12 (by kernel_rfl))))) : gb189 ≠ gb187)))
   have z_NB187_189 := fun (h0_ : up b 10 8 = true) (h1_ : up b 10 10 = true) => (show gb187 ≠ gb189 from ((by rw [hg]; exact Nat.ne_of_lt (blk_lt (g := gb187) (o := .cells #[.int .i64 0, .int .i64 0] 74 (0, 0)) (by (with_reducible repeat (first | refine blk_drewN ?_ _ | refine blk_drew ?_ | refine blk_alloc ?_ _)); exact (Q_BK187 h0_ (hoff 12 (by kernel_rfl))))) : gb187 ≠ gb189)))
   have z_NB189_188 := fun (h0_ : up b 10 9 = true) (h1_ : up b 10 10 = true) => (show gb189 ≠ gb188 from ((by rw [hg]; exact Nat.ne_of_gt (blk_lt (g := gb188) (o := .cells #[.int .i64 0, .int .i64 0] 74 (0, 0)) (by (with_reducible repeat (first | refine blk_drewN ?_ _ | refine blk_drew ?_ | refine blk_alloc ?_ _)); exact (Q_BK188 h0_ (hoff 13 (by kernel_rfl))))) : gb189 ≠ gb188)))
   have z_NB188_189 := fun (h0_ : up b 10 9 = true) (h1_ : up b 10 10 = true) => (show gb188 ≠ gb189 from ((by rw [hg]; exact Nat.ne_of_lt (blk_lt (g := gb188) (o := .cells #[.int .i64 0, .int .i64 0] 74 (0, 0)) (by (with_reducible repeat (first | refine blk_drewN ?_ _ | refine blk_drew ?_ | refine blk_alloc ?_ _)); exact (Q_BK188 h0_ (hoff 13 (by kernel_rfl))))) : gb188 ≠ gb189)))
   have z_NB190_189 := fun (h0_ : up b 10 10 = true) (h1_ : up b 10 11 = true) => (show gb190 ≠ gb189 from ((by rw [hg]; exact Nat.ne_of_lt (blk_lt (g := gb190) (o := .cells #[.int .i64 0, .int .i64 0] 74 (0, 0)) (by (with_reducible repeat (first | refine blk_drewN ?_ _ | refine blk_drew ?_ | refine blk_alloc ?_ _)); exact (Q_BK190 h1_ (hoff 15 (by kernel_rfl))))) : gb190 ≠ gb189)))
   have z_NB189_190 := fun (h0_ : up b 10 10 = true) (h1_ : up b 10 11 = true) => (show gb189 ≠ gb190 from ((by rw [hg]; exact Nat.ne_of_gt (blk_lt (g := gb190) (o := .cells #[.int .i64 0, .int .i64 0] 74 (0, 0)) (by (with_reducible repeat (first | refine blk_drewN ?_ _ | refine blk_drew ?_ | refine blk_alloc ?_ _)); exact (Q_BK190 h1_ (hoff 15 (by kernel_rfl))))) : gb189 ≠ gb190)))
   have z_BK187 := fun (h0_ : b 8 = true) (h1_ : b 12 = false) => (show w17.heap[gb187]? = some (.cells #[.int .i64 0, .int .i64 0] 74 (0, 0)) from by first | exact (blk_below (g := gb187) (o := .cells #[.int .i64 0, .int .i64 0] 74 (0, 0)) (by (with_reducible repeat (first | refine blk_drewN ?_ _ | refine blk_drew ?_ | refine blk_alloc ?_ _)); exact (Q_BK187 h0_ h1_)) hb))
   have z_BK188 := fun (h0_ : b 9 = true) (h1_ : b 13 = false) => (show w17.heap[gb188]? = some (.cells #[.int .i64 0, .int .i64 0] 74 (0, 0)) from by first | exact (blk_below (g := gb188) (o := .cells #[.int .i64 0, .int .i64 0] 74 (0, 0)) (by (with_reducible repeat (first | refine blk_drewN ?_ _ | refine blk_drew ?_ | refine blk_alloc ?_ _)); exact (Q_BK188 h0_ h1_)) hb))
   have z_BK190 := fun (h0_ : b 11 = true) (h1_ : b 15 = false) => (show w17.heap[gb190]? = some (.cells #[.int .i64 0, .int .i64 0] 74 (0, 0)) from by first | exact (blk_below (g := gb190) (o := .cells #[.int .i64 0, .int .i64 0] 74 (0, 0)) (by (with_reducible repeat (first | refine blk_drewN ?_ _ | refine blk_drew ?_ | refine blk_alloc ?_ _)); exact (Q_BK190 h0_ h1_)) hb))
   clear BK171
   clear BK177
   clear HB
   have BK171 := n0_
   have BK177 := n1_
   have HB := n2_
   have BK189 := n3_
   have GW189 := n4_
   have GE189 := n5_
   have NB171_189 := n6_
   have NB189_171 := n7_
   have NB177_189 := n8_
   have NB189_177 := n9_
   clear n0_ n1_ n2_ n3_ n4_ n5_ n6_ n7_ n8_ n9_
   clear hb hbox hg
   refine hK.out _ _ ⟨gb187, gb188, gb189, gb190, m8_, m9_, (.pointer (some ⟨gb189, 0, none⟩)), m11_, (by rw [ha.out]; exact putSel_upk 10 hb_ rfl rfl rfl), (by (with_reducible repeat (first | refine blk_drewN ?_ _ | refine blk_drew ?_ | refine blk_alloc ?_ _)); exact BK171.out), (by (with_reducible repeat (first | refine blk_drewN ?_ _ | refine blk_drew ?_ | refine blk_alloc ?_ _)); exact BK177.out), (by repeat (first | (with_reducible first | exact HB.out | apply below_alloc | apply pw_below_drewN | apply below_drew1 | refine below_set ?_ GE171.out | refine below_set ?_ GE177.out | refine below_set ?_ GE189.out) | exact HB.out)), Q_NB188_187, Q_NB187_188, z_NB189_187, z_NB187_189, Q_NB190_187, Q_NB187_190, z_NB189_188, z_NB188_189, Q_NB190_188, Q_NB188_190, z_NB190_189, z_NB189_190, z_BK187, Q_GW187, Q_GE187, Q_NB171_187, Q_NB187_171, Q_NB177_187, Q_NB187_177, z_BK188, Q_GW188, Q_GE188, Q_NB171_188, Q_NB188_171, Q_NB177_188, Q_NB188_177, fun _ _ => (by (with_reducible repeat (first | refine blk_drewN ?_ _ | refine blk_drew ?_ | refine blk_alloc ?_ _)); exact BK189.out), fun _ => GW189.out, fun _ => GE189.out, fun _ => NB171_189.out, fun _ => NB189_171.out, fun _ => NB177_189.out, fun _ => NB189_177.out, z_BK190, Q_GW190, Q_GE190, Q_NB171_190, Q_NB190_171, Q_NB177_190, Q_NB190_177, fun h0_ => absurd ((hoff 12 (by kernel_rfl)).symm.trans h0_) (by decide), fun h0_ => absurd ((hoff 13 (by kernel_rfl)).symm.trans h0_) (by decide), fun h0_ => absurd ((hoff 14 (by kernel_rfl)).symm.trans h0_) (by decide), fun h0_ => absurd ((hoff 15 (by kernel_rfl)).symm.trans h0_) (by decide), Q_X8_, Q_X9_, fun _ => rfl, Q_X11_⟩
  refine steps_cons ?_ ?_
  ·rintro b a w' ⟨gb187, gb188, gb189, gb190, m8_, m9_, m10_, m11_, ha, Q_BK171, Q_BK177, Q_HB, Q_NB188_187, Q_NB187_188, Q_NB189_187, Q_NB187_189, Q_NB190_187, Q_NB187_190, Q_NB189_188, Q_NB188_189, Q_NB190_188, Q_NB188_190, Q_NB190_189, Q_NB189_190, Q_BK187, Q_GW187, Q_GE187, Q_NB171_187, Q_NB187_171, Q_NB177_187, Q_NB187_177, Q_BK188, Q_GW188, Q_GE188, Q_NB171_188, Q_NB188_171, Q_NB177_188, Q_NB188_177, Q_BK189, Q_GW189, Q_GE189, Q_NB171_189, Q_NB189_171, Q_NB177_189, Q_NB189_177, Q_BK190, Q_GW190, Q_GE190, Q_NB171_190, Q_NB190_171, Q_NB177_190, Q_NB190_177, Q_BK187_e12, Q_BK188_e13, Q_BK189_e14, Q_BK190_e15, Q_X8_, Q_X9_, Q_X10_, Q_X11_⟩ hb_ hon hoff
   refine ⟨_, rfl, fun K hK => ?_⟩
   replace ha := Aside0.mk ha
   have BK171 := Aside0.mk Q_BK171
   have BK177 := Aside0.mk Q_BK177
   have HB := Aside0.mk Q_HB
   refine box_step ?hg (N := 8) ?hd (cs := #[.int .i64 0, .int .i64 0]) (t := 74) ?hr ?_; (case hd => rfl); (case hg => rfl); (case hr => first | (go_simp; done) | (go_simp; rfl))
   intro gb190 hg w17 hbox hb
   have n0_ := Aside0.mk (blk_below (g := gb171) (o := .cells #[.int .i64 a0_0, .int .i64 a0_1, .int .i64 a0_2, .int .i64 a0_3, .bool a0_4] 69 (0, 0)) (by (with_reducible repeat (first | refine blk_drewN ?_ _ | refine blk_drew ?_ | refine blk_alloc ?_ _)); exact BK171.out) hb)
   have n1_ := Aside0.mk (blk_below (g := gb177) (o := .cells #[.int .i64 t172, .int .i64 t173, .int .i64 t174, .int .i64 t175, .bool t176] 70 (0, 0)) (by (with_reducible repeat (first | refine blk_drewN ?_ _ | refine blk_drew ?_ | refine blk_alloc ?_ _)); exact BK177.out) hb)
   have n2_ := Aside0.mk (below_step (by repeat (first | (with_reducible first | exact HB.out | apply below_alloc | apply pw_below_drewN | apply below_drew1 | refine below_set ?_ GE171.out | refine below_set ?_ GE177.out) | exact HB.out)) hb)
   have n3_ := Aside0.mk (hbox)
   have n4_ := Aside0.mk ((by rw [hg]; exact (below_size (by repeat (first | (with_reducible first | exact HB.out | apply below_alloc | apply pw_below_drewN | apply below_drew1 | refine below_set ?_ GE171.out | refine below_set ?_ GE177.out) | exact HB.out))) : w.heap.size ≤ gb190))
   have n5_ := Aside0.mk ((by rw [hg]; exact (below_size (by repeat (first | (with_reducible first | exact HB.out | apply below_alloc | apply pw_below_drewN | apply below_drew1 | refine below_set ?_ GE171.out | refine below_set ?_ GE177.out) | exact HB.out))) : w.heap.size ≤ gb190))
   have n6_ := Aside0.mk ((by rw [hg]; exact Nat.ne_of_lt (blk_lt (g := gb171) (o := .cells #[.int .i64 a0_0, .int .i64 a0_1, .int .i64 a0_2, .int .i64 a0_3, .bool a0_4] 69 (0, 0)) (by (with_reducible repeat (first | refine blk_drewN ?_ _ | refine blk_drew ?_ | refine blk_alloc ?_ _)); exact BK171.out)) : gb171 ≠ gb190))
   have n7_ := Aside0.mk ((by rw [hg]; exact Nat.ne_of_gt (blk_lt (g := gb171) (o := .cells #[.int .i64 a0_0, .int .i64 a0_1, .int .i64 a0_2, .int .i64 a0_3, .bool a0_4] 69 (0, 0)) (by (with_reducible repeat (first | refine blk_drewN ?_ _ | refine blk_drew ?_ | refine blk_alloc ?_ _)); exact BK171.out)) : gb190 ≠ gb171))
   have n8_ := Aside0.mk ((by rw [hg]; exact Nat.ne_of_lt (blk_lt (g := gb177) (o := .cells #[.int .i64 t172, .int .i64 t173, .int .i64 t174, .int .i64 t175, .bool t176] 70 (0, 0)) (by (with_reducible repeat (first | refine blk_drewN ?_ _ | refine blk_drew ?_ | refine blk_alloc ?_ _)); exact BK177.out)) : gb177 ≠ gb190))
   have n9_ := Aside0.mk ((by rw [hg]; exact Nat.ne_of_gt (blk_lt (g := gb177) (o := .cells #[.int .i64 t172, .int .i64 t173, .int .i64 t174, .int .i64 t175, .bool t176] 70 (0, 0)) (by (with_reducible repeat (first | refine blk_drewN ?_ _ | refine blk_drew ?_ | refine blk_alloc ?_ _)); exact BK177.out)) : gb190 ≠ gb177))
   have z_NB190_187 := fun (h0_ : up b 11 8 = true) (h1_ : up b 11 11 = true) => (show gb190 ≠ gb187 from ((by rw [hg]; exact Nat.ne_of_gt (blk_lt (g := gb187) (o := .cells #[.int .i64 0, .int .i64 0] 74 (0, 0)) (by (with_reducible repeat (first | refine blk_drewN ?_ _ | refine blk_drew ?_ | refine blk_alloc ?_ _)); exact (Q_BK187 h0_ (hoff 12 (by kernel_rfl))))) : gb190 ≠ gb187)))
   have z_NB187_190 := fun (h0_ : up b 11 8 = true) (h1_ : up b 11 11 = true) => (show gb187 ≠ gb190 from ((by rw [hg]; exact Nat.ne_of_lt (blk_lt (g := gb187) (o := .cells #[.int .i64 0, .int .i64 0] 74 (0, 0)) (by (with_reducible repeat (first | refine blk_drewN ?_ _ | refine blk_drew ?_ | refine blk_alloc ?_ _)); exact (Q_BK187 h0_ (hoff 12 (by kernel_rfl))))) : gb187 ≠ gb190)))
   have z_NB190_188 := fun (h0_ : up b 11 9 = true) (h1_ : up b 11 11 = true) => (show gb190 ≠ gb188 from ((by rw [hg]; exact Nat.ne_of_gt (blk_lt (g := gb188) (o := .cells #[.int .i64 0, .int .i64 0] 74 (0, 0)) (by (with_reducible repeat (first | refine blk_drewN ?_ _ | refine blk_drew ?_ | refine blk_alloc ?_ _)); exact (Q_BK188 h0_ (hoff 13 (by kernel_rfl))))) : gb190 ≠ gb188)))
   have z_NB188_190 := fun (h0_ : up b 11 9 = true) (h1_ : up b 11 11 = true) => (show gb188 ≠ gb190 from ((by rw [hg]; exact Nat.ne_of_lt (blk_lt (g := gb188) (o := .cells #[.int .i64 0, .int .i64 0] 74 (0, 0)) (by (with_reducible repeat (first | refine blk_drewN ?_ _ | refine blk_drew ?_ | refine blk_alloc ?_ _)); exact (Q_BK188 h0_ (hoff 13 (by kernel_rfl))))) : gb188 ≠ gb190)))
   have z_NB190_189 := fun (h0_ : up b 11 10 = true) (h1_ : up b 11 11 = true) => (show gb190 ≠ gb189 from ((by rw [hg]; exact Nat.ne_of_gt (blk_lt (g := gb189) (o := .cells #[.int .i64 0, .int .i64 0] 74 (0, 0)) (by (with_reducible repeat (first | refine blk_drewN ?_ _ | refine blk_drew ?_ | refine blk_alloc ?_ _)); exact (Q_BK189 h0_ (hoff 14 (by kernel_rfl))))) : gb190 ≠ gb189)))
   have z_NB189_190 := fun (h0_ : up b 11 10 = true) (h1_ : up b 11 11 = true) => (show gb189 ≠ gb190 from ((by rw [hg]; exact Nat.ne_of_lt (blk_lt (g := gb189) (o := .cells #[.int .i64 0, .int .i64 0] 74 (0, 0)) (by (with_reducible repeat (first | refine blk_drewN ?_ _ | refine blk_drew ?_ | refine blk_alloc ?_ _)); exact (Q_BK189 h0_ (hoff 14 (by kernel_rfl))))) : gb189 ≠ gb190)))
   have z_BK187 := fun (h0_ : b 8 = true) (h1_ : b 12 = false) => (show w17.heap[gb187]? = some (.cells #[.int .i64 0, .int .i64 0] 74 (0, 0)) from by first | exact (blk_below (g := gb187) (o := .cells #[.int .i64 0, .int .i64 0] 74 (0, 0)) (by (with_reducible repeat (first | refine blk_drewN ?_ _ | refine blk_drew ?_ | refine blk_alloc ?_ _)); exact (Q_BK187 h0_ h1_)) hb))
   have z_BK188 := fun (h0_ : b 9 = true) (h1_ : b 13 = false) => (show w17.heap[gb188]? = some (.cells #[.int .i64 0, .int .i64 0] 74 (0, 0)) from by first | exact (blk_below (g := gb188) (o := .cells #[.int .i64 0, .int .i64 0] 74 (0, 0)) (by (with_reducible repeat (first | refine blk_drewN ?_ _ | refine blk_drew ?_ | refine blk_alloc ?_ _)); exact (Q_BK188 h0_ h1_)) hb))
   have z_BK189 := fun (h0_ : b 10 = true) (h1_ : b 14 = false) => (show w17.heap[gb189]? = some (.cells #[.int .i64 0, .int .i64 0] 74 (0, 0)) from by first | exact (blk_below (g := gb189) (o := .cells #[.int .i64 0, .int .i64 0] 74 (0, 0)) (by (with_reducible repeat (first | refine blk_drewN ?_ _ | refine blk_drew ?_ | refine blk_alloc ?_ _)); exact (Q_BK189 h0_ h1_)) hb))
   clear BK171
   clear BK177
   clear HB
   have BK171 := n0_
   have BK177 := n1_
   have HB := n2_
   have BK190 := n3_
   have GW190 := n4_
   have GE190 := n5_
   have NB171_190 := n6_
   have NB190_171 := n7_
   have NB177_190 := n8_
   have NB190_177 := n9_
   clear n0_ n1_ n2_ n3_ n4_ n5_ n6_ n7_ n8_ n9_
   clear hb hbox hg
   refine hK.out _ _ ⟨gb187, gb188, gb189, gb190, m8_, m9_, m10_, (.pointer (some ⟨gb190, 0, none⟩)), (by rw [ha.out]; exact putSel_upk 11 hb_ rfl rfl rfl), (by (with_reducible repeat (first | refine blk_drewN ?_ _ | refine blk_drew ?_ | refine blk_alloc ?_ _)); exact BK171.out), (by (with_reducible repeat (first | refine blk_drewN ?_ _ | refine blk_drew ?_ | refine blk_alloc ?_ _)); exact BK177.out), (by repeat (first | (with_reducible first | exact HB.out | apply below_alloc | apply pw_below_drewN | apply below_drew1 | refine below_set ?_ GE171.out | refine below_set ?_ GE177.out | refine below_set ?_ GE190.out) | exact HB.out)), Q_NB188_187, Q_NB187_188, Q_NB189_187, Q_NB187_189, z_NB190_187, z_NB187_190, Q_NB189_188, Q_NB188_189, z_NB190_188, z_NB188_190, z_NB190_189, z_NB189_190, z_BK187, Q_GW187, Q_GE187, Q_NB171_187, Q_NB187_171, Q_NB177_187, Q_NB187_177, z_BK188, Q_GW188, Q_GE188, Q_NB171_188, Q_NB188_171, Q_NB177_188, Q_NB188_177, z_BK189, Q_GW189, Q_GE189, Q_NB171_189, Q_NB189_171, Q_NB177_189, Q_NB189_177, fun _ _ => (by (with_reducible repeat (first | refine blk_drewN ?_ _ | refine blk_drew ?_ | refine blk_alloc ?_ _)); exact BK190.out), fun _ => GW190.out, fun _ => GE190.out, fun _ => NB171_190.out, fun _ => NB190_171.out, fun _ => NB177_190.out, fun _ => NB190_177.out, fun h0_ => absurd ((hoff 12 (by kernel_rfl)).symm.trans h0_) (by decide), fun h0_ => absurd ((hoff 13 (by kernel_rfl)).symm.trans h0_) (by decide), fun h0_ => absurd ((hoff 14 (by kernel_rfl)).symm.trans h0_) (by decide), fun h0_ => absurd ((hoff 15 (by kernel_rfl)).symm.trans h0_) (by decide), Q_X8_, Q_X9_, Q_X10_, fun _ => rfl⟩
  refine steps_cons ?_ ?_
  ·rintro b a w' ⟨gb187, gb188, gb189, gb190, m8_, m9_, m10_, m11_, ha, Q_BK171, Q_BK177, Q_HB, Q_NB188_187, Q_NB187_188, Q_NB189_187, Q_NB187_189, Q_NB190_187, Q_NB187_190, Q_NB189_188, Q_NB188_189, Q_NB190_188, Q_NB188_190, Q_NB190_189, Q_NB189_190, Q_BK187, Q_GW187, Q_GE187, Q_NB171_187, Q_NB187_171, Q_NB177_187, Q_NB187_177, Q_BK188, Q_GW188, Q_GE188, Q_NB171_188, Q_NB188_171, Q_NB177_188, Q_NB188_177, Q_BK189, Q_GW189, Q_GE189, Q_NB171_189, Q_NB189_171, Q_NB177_189, Q_NB189_177, Q_BK190, Q_GW190, Q_GE190, Q_NB171_190, Q_NB190_171, Q_NB177_190, Q_NB190_177, Q_BK187_e12, Q_BK188_e13, Q_BK189_e14, Q_BK190_e15, Q_X8_, Q_X9_, Q_X10_, Q_X11_⟩ hb_ hon hoff
   refine ⟨_, rfl, fun K hK => ?_⟩
   have e5 : a.tmps[5]? = some (m8_) := by rw [ha]; exact putSel_on (e := (8, 5, m8_)) 8 rfl rfl (hon 8 (by kernel_rfl)) rfl
   rw [Q_X8_ (hon 8 (by kernel_rfl))] at e5
   have e14 : a.tmps[14]? = some (.agg #[.int .i64 t179, .int .i64 t180]) := by rw [ha]; exact putSel_on (e := (1, 14, .agg #[.int .i64 t179, .int .i64 t180])) 1 rfl rfl (hon 1 (by kernel_rfl)) rfl
   replace ha := Aside0.mk ha
   have BK171 := Aside0.mk Q_BK171
   have BK177 := Aside0.mk Q_BK177
   have HB := Aside0.mk Q_HB
   have NB188_187 := Aside0.mk (Q_NB188_187 (hon 8 (by kernel_rfl)) (hon 9 (by kernel_rfl)))
   have NB187_188 := Aside0.mk (Q_NB187_188 (hon 8 (by kernel_rfl)) (hon 9 (by kernel_rfl)))
   have NB189_187 := Aside0.mk (Q_NB189_187 (hon 8 (by kernel_rfl)) (hon 10 (by kernel_rfl)))
   have NB187_189 := Aside0.mk (Q_NB187_189 (hon 8 (by kernel_rfl)) (hon 10 (by kernel_rfl)))
   have NB190_187 := Aside0.mk (Q_NB190_187 (hon 8 (by kernel_rfl)) (hon 11 (by kernel_rfl)))
   have NB187_190 := Aside0.mk (Q_NB187_190 (hon 8 (by kernel_rfl)) (hon 11 (by kernel_rfl)))
   have NB189_188 := Aside0.mk (Q_NB189_188 (hon 9 (by kernel_rfl)) (hon 10 (by kernel_rfl)))
   have NB188_189 := Aside0.mk (Q_NB188_189 (hon 9 (by kernel_rfl)) (hon 10 (by kernel_rfl)))
   have NB190_188 := Aside0.mk (Q_NB190_188 (hon 9 (by kernel_rfl)) (hon 11 (by kernel_rfl)))
   have NB188_190 := Aside0.mk (Q_NB188_190 (hon 9 (by kernel_rfl)) (hon 11 (by kernel_rfl)))
   have NB190_189 := Aside0.mk (Q_NB190_189 (hon 10 (by kernel_rfl)) (hon 11 (by kernel_rfl)))
   have NB189_190 := Aside0.mk (Q_NB189_190 (hon 10 (by kernel_rfl)) (hon 11 (by kernel_rfl)))
   have BK187 := Aside0.mk (Q_BK187 (hon 8 (by kernel_rfl)) hb_)
   have GW187 := Aside0.mk (Q_GW187 (hon 8 (by kernel_rfl)))
   have GE187 := Aside0.mk (Q_GE187 (hon 8 (by kernel_rfl)))
   have NB171_187 := Aside0.mk (Q_NB171_187 (hon 8 (by kernel_rfl)))
   have NB187_171 := Aside0.mk (Q_NB187_171 (hon 8 (by kernel_rfl)))
   have NB177_187 := Aside0.mk (Q_NB177_187 (hon 8 (by kernel_rfl)))
   have NB187_177 := Aside0.mk (Q_NB187_177 (hon 8 (by kernel_rfl)))
   have BK188 := Aside0.mk (Q_BK188 (hon 9 (by kernel_rfl)) (hoff 13 (by kernel_rfl)))
   have GW188 := Aside0.mk (Q_GW188 (hon 9 (by kernel_rfl)))
   have GE188 := Aside0.mk (Q_GE188 (hon 9 (by kernel_rfl)))
   have NB171_188 := Aside0.mk (Q_NB171_188 (hon 9 (by kernel_rfl)))
   have NB188_171 := Aside0.mk (Q_NB188_171 (hon 9 (by kernel_rfl)))
   have NB177_188 := Aside0.mk (Q_NB177_188 (hon 9 (by kernel_rfl)))
   have NB188_177 := Aside0.mk (Q_NB188_177 (hon 9 (by kernel_rfl)))
   have BK189 := Aside0.mk (Q_BK189 (hon 10 (by kernel_rfl)) (hoff 14 (by kernel_rfl)))
   have GW189 := Aside0.mk (Q_GW189 (hon 10 (by kernel_rfl)))
   have GE189 := Aside0.mk (Q_GE189 (hon 10 (by kernel_rfl)))
   have NB171_189 := Aside0.mk (Q_NB171_189 (hon 10 (by kernel_rfl)))
   have NB189_171 := Aside0.mk (Q_NB189_171 (hon 10 (by kernel_rfl)))
   have NB177_189 := Aside0.mk (Q_NB177_189 (hon 10 (by kernel_rfl)))
   have NB189_177 := Aside0.mk (Q_NB189_177 (hon 10 (by kernel_rfl)))
   have BK190 := Aside0.mk (Q_BK190 (hon 11 (by kernel_rfl)) (hoff 15 (by kernel_rfl)))
   have GW190 := Aside0.mk (Q_GW190 (hon 11 (by kernel_rfl)))
   have GE190 := Aside0.mk (Q_GE190 (hon 11 (by kernel_rfl)))
   have NB171_190 := Aside0.mk (Q_NB171_190 (hon 11 (by kernel_rfl)))
   have NB190_171 := Aside0.mk (Q_NB190_171 (hon 11 (by kernel_rfl)))
   have NB177_190 := Aside0.mk (Q_NB177_190 (hon 11 (by kernel_rfl)))
   have NB190_177 := Aside0.mk (Q_NB190_177 (hon 11 (by kernel_rfl)))
   have hs26 : w'.cell? ⟨gb187, 0, none⟩ = some (.int .i64 0) := (blk_cell BK187.out 0).trans rfl
   have hfs26 := blk_frozen BK187.out 0
   have hns26_0 := NB171_187.out
   have hns26_1 := NB177_187.out
   have hns26_3 := NB188_187.out
   have hns26_4 := NB189_187.out
   have hns26_5 := NB190_187.out
   have hms26_0 := NB187_171.out
   have hms26_1 := NB187_177.out
   have hms26_3 := NB187_188.out
   have hms26_4 := NB187_189.out
   have hms26_5 := NB187_190.out
   have hs27 : w'.cell? ⟨gb187, 1, none⟩ = some (.int .i64 0) := (blk_cell BK187.out 1).trans rfl
   have hfs27 := blk_frozen BK187.out 1
   have hns27_0 := NB171_187.out
   have hns27_1 := NB177_187.out
   have hns27_3 := NB188_187.out
   have hns27_4 := NB189_187.out
   have hns27_5 := NB190_187.out
   have hms27_0 := NB187_171.out
   have hms27_1 := NB187_177.out
   have hms27_3 := NB187_188.out
   have hms27_4 := NB187_189.out
   have hms27_5 := NB187_190.out
   refine skip_ (w1 := ?_) (by rfl) rfl ?_ ?_
   rotate_left
   ·go_simp
    rfl
   refine hK.out _ _ ⟨gb187, gb188, gb189, gb190, m8_, m9_, m10_, m11_, (by rw [ha.out]; exact putSel_none (v := undef) rfl), (by (with_reducible repeat (first | refine blk_drewN ?_ _ | refine blk_drew ?_ | refine blk_alloc ?_ _)); refine blk_far ?_ NB171_187.out _; (with_reducible repeat (first | refine blk_drewN ?_ _ | refine blk_drew ?_ | refine blk_alloc ?_ _)); refine blk_far ?_ NB171_187.out _; (with_reducible repeat (first | refine blk_drewN ?_ _ | refine blk_drew ?_ | refine blk_alloc ?_ _)); exact BK171.out), (by (with_reducible repeat (first | refine blk_drewN ?_ _ | refine blk_drew ?_ | refine blk_alloc ?_ _)); refine blk_far ?_ NB177_187.out _; (with_reducible repeat (first | refine blk_drewN ?_ _ | refine blk_drew ?_ | refine blk_alloc ?_ _)); refine blk_far ?_ NB177_187.out _; (with_reducible repeat (first | refine blk_drewN ?_ _ | refine blk_drew ?_ | refine blk_alloc ?_ _)); exact BK177.out), (by repeat (first | (with_reducible first | exact HB.out | apply below_alloc | apply pw_below_drewN | apply below_drew1 | refine below_set ?_ GE171.out | refine below_set ?_ GE177.out | refine below_set ?_ GE187.out | refine below_set ?_ GE188.out | refine below_set ?_ GE189.out | refine below_set ?_ GE190.out) | exact HB.out)), fun _ _ => NB188_187.out, fun _ _ => NB187_188.out, fun _ _ => NB189_187.out, fun _ _ => NB187_189.out, fun _ _ => NB190_187.out, fun _ _ => NB187_190.out, fun _ _ => NB189_188.out, fun _ _ => NB188_189.out, fun _ _ => NB190_188.out, fun _ _ => NB188_190.out, fun _ _ => NB190_189.out, fun _ _ => NB189_190.out, fun _ h1_ => absurd ((up_self b 12).symm.trans h1_) (by decide), fun _ => GW187.out, fun _ => GE187.out, fun _ => NB171_187.out, fun _ => NB187_171.out, fun _ => NB177_187.out, fun _ => NB187_177.out, fun _ _ => (by (with_reducible repeat (first | refine blk_drewN ?_ _ | refine blk_drew ?_ | refine blk_alloc ?_ _)); refine blk_far ?_ NB188_187.out _; (with_reducible repeat (first | refine blk_drewN ?_ _ | refine blk_drew ?_ | refine blk_alloc ?_ _)); refine blk_far ?_ NB188_187.out _; (with_reducible repeat (first | refine blk_drewN ?_ _ | refine blk_drew ?_ | refine blk_alloc ?_ _)); exact BK188.out), fun _ => GW188.out, fun _ => GE188.out, fun _ => NB171_188.out, fun _ => NB188_171.out, fun _ => NB177_188.out, fun _ => NB188_177.out, fun _ _ => (by (with_reducible repeat (first | refine blk_drewN ?_ _ | refine blk_drew ?_ | refine blk_alloc ?_ _)); refine blk_far ?_ NB189_187.out _; (with_reducible repeat (first | refine blk_drewN ?_ _ | refine blk_drew ?_ | refine blk_alloc ?_ _)); refine blk_far ?_ NB189_187.out _; (with_reducible repeat (first | refine blk_drewN ?_ _ | refine blk_drew ?_ | refine blk_alloc ?_ _)); exact BK189.out), fun _ => GW189.out, fun _ => GE189.out, fun _ => NB171_189.out, fun _ => NB189_171.out, fun _ => NB177_189.out, fun _ => NB189_177.out, fun _ _ => (by (with_reducible repeat (first | refine blk_drewN ?_ _ | refine blk_drew ?_ | refine blk_alloc ?_ _)); refine blk_far ?_ NB190_187.out _; (with_reducible repeat (first | refine blk_drewN ?_ _ | refine blk_drew ?_ | refine blk_alloc ?_ _)); refine blk_far ?_ NB190_187.out _; (with_reducible repeat (first | refine blk_drewN ?_ _ | refine blk_drew ?_ | refine blk_alloc ?_ _)); exact BK190.out), fun _ => GW190.out, fun _ => GE190.out, fun _ => NB171_190.out, fun _ => NB190_171.out, fun _ => NB177_190.out, fun _ => NB190_177.out, fun _ => (by (with_reducible repeat (first | refine blk_drewN ?_ _ | refine blk_drew ?_ | refine blk_alloc ?_ _)); refine blk_put (cs := #[.int .i64 t179, .int .i64 0]) ?_ 1 _ (by first | rfl | (simp [*]; done)); (with_reducible repeat (first | refine blk_drewN ?_ _ | refine blk_drew ?_ | refine blk_alloc ?_ _)); refine blk_put (cs := #[.int .i64 0, .int .i64 0]) ?_ 0 _ (by first | rfl | (simp [*]; done)); (with_reducible repeat (first | refine blk_drewN ?_ _ | refine blk_drew ?_ | refine blk_alloc ?_ _)); exact BK187.out), fun h0_ => absurd ((hoff 13 (by kernel_rfl)).symm.trans h0_) (by decide), fun h0_ => absurd ((hoff 14 (by kernel_rfl)).symm.trans h0_) (by decide), fun h0_ => absurd ((hoff 15 (by kernel_rfl)).symm.trans h0_) (by decide), Q_X8_, Q_X9_, Q_X10_, Q_X11_⟩
  refine steps_cons ?_ ?_
  ·rintro b a w' ⟨gb187, gb188, gb189, gb190, m8_, m9_, m10_, m11_, ha, Q_BK171, Q_BK177, Q_HB, Q_NB188_187, Q_NB187_188, Q_NB189_187, Q_NB187_189, Q_NB190_187, Q_NB187_190, Q_NB189_188, Q_NB188_189, Q_NB190_188, Q_NB188_190, Q_NB190_189, Q_NB189_190, Q_BK187, Q_GW187, Q_GE187, Q_NB171_187, Q_NB187_171, Q_NB177_187, Q_NB187_177, Q_BK188, Q_GW188, Q_GE188, Q_NB171_188, Q_NB188_171, Q_NB177_188, Q_NB188_177, Q_BK189, Q_GW189, Q_GE189, Q_NB171_189, Q_NB189_171, Q_NB177_189, Q_NB189_177, Q_BK190, Q_GW190, Q_GE190, Q_NB171_190, Q_NB190_171, Q_NB177_190, Q_NB190_177, Q_BK187_e12, Q_BK188_e13, Q_BK189_e14, Q_BK190_e15, Q_X8_, Q_X9_, Q_X10_, Q_X11_⟩ hb_ hon hoff
   refine ⟨_, rfl, fun K hK => ?_⟩
   have e6 : a.tmps[6]? = some (m9_) := by rw [ha]; exact putSel_on (e := (9, 6, m9_)) 9 rfl rfl (hon 9 (by kernel_rfl)) rfl
   rw [Q_X9_ (hon 9 (by kernel_rfl))] at e6
   have e16 : a.tmps[16]? = some (.agg #[.int .i64 t181, .int .i64 t182]) := by rw [ha]; exact putSel_on (e := (3, 16, .agg #[.int .i64 t181, .int .i64 t182])) 3 rfl rfl (hon 3 (by kernel_rfl)) rfl
   replace ha := Aside0.mk ha
   have BK171 := Aside0.mk Q_BK171
   have BK177 := Aside0.mk Q_BK177
   have HB := Aside0.mk Q_HB
   have NB188_187 := Aside0.mk (Q_NB188_187 (hon 8 (by kernel_rfl)) (hon 9 (by kernel_rfl)))
   have NB187_188 := Aside0.mk (Q_NB187_188 (hon 8 (by kernel_rfl)) (hon 9 (by kernel_rfl)))
   have NB189_187 := Aside0.mk (Q_NB189_187 (hon 8 (by kernel_rfl)) (hon 10 (by kernel_rfl)))
   have NB187_189 := Aside0.mk (Q_NB187_189 (hon 8 (by kernel_rfl)) (hon 10 (by kernel_rfl)))
   have NB190_187 := Aside0.mk (Q_NB190_187 (hon 8 (by kernel_rfl)) (hon 11 (by kernel_rfl)))
   have NB187_190 := Aside0.mk (Q_NB187_190 (hon 8 (by kernel_rfl)) (hon 11 (by kernel_rfl)))
   have NB189_188 := Aside0.mk (Q_NB189_188 (hon 9 (by kernel_rfl)) (hon 10 (by kernel_rfl)))
   have NB188_189 := Aside0.mk (Q_NB188_189 (hon 9 (by kernel_rfl)) (hon 10 (by kernel_rfl)))
   have NB190_188 := Aside0.mk (Q_NB190_188 (hon 9 (by kernel_rfl)) (hon 11 (by kernel_rfl)))
   have NB188_190 := Aside0.mk (Q_NB188_190 (hon 9 (by kernel_rfl)) (hon 11 (by kernel_rfl)))
   have NB190_189 := Aside0.mk (Q_NB190_189 (hon 10 (by kernel_rfl)) (hon 11 (by kernel_rfl)))
   have NB189_190 := Aside0.mk (Q_NB189_190 (hon 10 (by kernel_rfl)) (hon 11 (by kernel_rfl)))
   have GW187 := Aside0.mk (Q_GW187 (hon 8 (by kernel_rfl)))
   have GE187 := Aside0.mk (Q_GE187 (hon 8 (by kernel_rfl)))
   have NB171_187 := Aside0.mk (Q_NB171_187 (hon 8 (by kernel_rfl)))
   have NB187_171 := Aside0.mk (Q_NB187_171 (hon 8 (by kernel_rfl)))
   have NB177_187 := Aside0.mk (Q_NB177_187 (hon 8 (by kernel_rfl)))
   have NB187_177 := Aside0.mk (Q_NB187_177 (hon 8 (by kernel_rfl)))
   have BK188 := Aside0.mk (Q_BK188 (hon 9 (by kernel_rfl)) hb_)
   have GW188 := Aside0.mk (Q_GW188 (hon 9 (by kernel_rfl)))
   have GE188 := Aside0.mk (Q_GE188 (hon 9 (by kernel_rfl)))
   have NB171_188 := Aside0.mk (Q_NB171_188 (hon 9 (by kernel_rfl)))
   have NB188_171 := Aside0.mk (Q_NB188_171 (hon 9 (by kernel_rfl)))
   have NB177_188 := Aside0.mk (Q_NB177_188 (hon 9 (by kernel_rfl)))
   have NB188_177 := Aside0.mk (Q_NB188_177 (hon 9 (by kernel_rfl)))
   have BK189 := Aside0.mk (Q_BK189 (hon 10 (by kernel_rfl)) (hoff 14 (by kernel_rfl)))
   have GW189 := Aside0.mk (Q_GW189 (hon 10 (by kernel_rfl)))
   have GE189 := Aside0.mk (Q_GE189 (hon 10 (by kernel_rfl)))
   have NB171_189 := Aside0.mk (Q_NB171_189 (hon 10 (by kernel_rfl)))
   have NB189_171 := Aside0.mk (Q_NB189_171 (hon 10 (by kernel_rfl)))
   have NB177_189 := Aside0.mk (Q_NB177_189 (hon 10 (by kernel_rfl)))
   have NB189_177 := Aside0.mk (Q_NB189_177 (hon 10 (by kernel_rfl)))
   have BK190 := Aside0.mk (Q_BK190 (hon 11 (by kernel_rfl)) (hoff 15 (by kernel_rfl)))
   have GW190 := Aside0.mk (Q_GW190 (hon 11 (by kernel_rfl)))
   have GE190 := Aside0.mk (Q_GE190 (hon 11 (by kernel_rfl)))
   have NB171_190 := Aside0.mk (Q_NB171_190 (hon 11 (by kernel_rfl)))
   have NB190_171 := Aside0.mk (Q_NB190_171 (hon 11 (by kernel_rfl)))
   have NB177_190 := Aside0.mk (Q_NB177_190 (hon 11 (by kernel_rfl)))
   have NB190_177 := Aside0.mk (Q_NB190_177 (hon 11 (by kernel_rfl)))
   have BK187 := Aside0.mk (Q_BK187_e12 (hon 12 (by kernel_rfl)))
   have hs28 : w'.cell? ⟨gb188, 0, none⟩ = some (.int .i64 0) := (blk_cell BK188.out 0).trans rfl
   have hfs28 := blk_frozen BK188.out 0
   have hns28_0 := NB171_188.out
   have hns28_1 := NB177_188.out
   have hns28_2 := NB187_188.out
   have hns28_4 := NB189_188.out
   have hns28_5 := NB190_188.out
   have hms28_0 := NB188_171.out
   have hms28_1 := NB188_177.out
   have hms28_2 := NB188_187.out
   have hms28_4 := NB188_189.out
   have hms28_5 := NB188_190.out
   have hs29 : w'.cell? ⟨gb188, 1, none⟩ = some (.int .i64 0) := (blk_cell BK188.out 1).trans rfl
   have hfs29 := blk_frozen BK188.out 1
   have hns29_0 := NB171_188.out
   have hns29_1 := NB177_188.out
   have hns29_2 := NB187_188.out
   have hns29_4 := NB189_188.out
   have hns29_5 := NB190_188.out
   have hms29_0 := NB188_171.out
   have hms29_1 := NB188_177.out
   have hms29_2 := NB188_187.out
   have hms29_4 := NB188_189.out
   have hms29_5 := NB188_190.out
   refine skip_ (w1 := ?_) (by rfl) rfl ?_ ?_
   rotate_left
   ·go_simp
    rfl
   refine hK.out _ _ ⟨gb187, gb188, gb189, gb190, m8_, m9_, m10_, m11_, (by rw [ha.out]; exact putSel_none (v := undef) rfl), (by (with_reducible repeat (first | refine blk_drewN ?_ _ | refine blk_drew ?_ | refine blk_alloc ?_ _)); refine blk_far ?_ NB171_188.out _; (with_reducible repeat (first | refine blk_drewN ?_ _ | refine blk_drew ?_ | refine blk_alloc ?_ _)); refine blk_far ?_ NB171_188.out _; (with_reducible repeat (first | refine blk_drewN ?_ _ | refine blk_drew ?_ | refine blk_alloc ?_ _)); exact BK171.out), (by (with_reducible repeat (first | refine blk_drewN ?_ _ | refine blk_drew ?_ | refine blk_alloc ?_ _)); refine blk_far ?_ NB177_188.out _; (with_reducible repeat (first | refine blk_drewN ?_ _ | refine blk_drew ?_ | refine blk_alloc ?_ _)); refine blk_far ?_ NB177_188.out _; (with_reducible repeat (first | refine blk_drewN ?_ _ | refine blk_drew ?_ | refine blk_alloc ?_ _)); exact BK177.out), (by repeat (first | (with_reducible first | exact HB.out | apply below_alloc | apply pw_below_drewN | apply below_drew1 | refine below_set ?_ GE171.out | refine below_set ?_ GE177.out | refine below_set ?_ GE187.out | refine below_set ?_ GE188.out | refine below_set ?_ GE189.out | refine below_set ?_ GE190.out) | exact HB.out)), fun _ _ => NB188_187.out, fun _ _ => NB187_188.out, fun _ _ => NB189_187.out, fun _ _ => NB187_189.out, fun _ _ => NB190_187.out, fun _ _ => NB187_190.out, fun _ _ => NB189_188.out, fun _ _ => NB188_189.out, fun _ _ => NB190_188.out, fun _ _ => NB188_190.out, fun _ _ => NB190_189.out, fun _ _ => NB189_190.out, fun _ h1_ => absurd ((hon 12 (by kernel_rfl)).symm.trans h1_) (by decide), fun _ => GW187.out, fun _ => GE187.out, fun _ => NB171_187.out, fun _ => NB187_171.out, fun _ => NB177_187.out, fun _ => NB187_177.out, fun _ h1_ => absurd ((up_self b 13).symm.trans h1_) (by decide), fun _ => GW188.out, fun _ => GE188.out, fun _ => NB171_188.out, fun _ => NB188_171.out, fun _ => NB177_188.out, fun _ => NB188_177.out, fun _ _ => (by (with_reducible repeat (first | refine blk_drewN ?_ _ | refine blk_drew ?_ | refine blk_alloc ?_ _)); refine blk_far ?_ NB189_188.out _; (with_reducible repeat (first | refine blk_drewN ?_ _ | refine blk_drew ?_ | refine blk_alloc ?_ _)); refine blk_far ?_ NB189_188.out _; (with_reducible repeat (first | refine blk_drewN ?_ _ | refine blk_drew ?_ | refine blk_alloc ?_ _)); exact BK189.out), fun _ => GW189.out, fun _ => GE189.out, fun _ => NB171_189.out, fun _ => NB189_171.out, fun _ => NB177_189.out, fun _ => NB189_177.out, fun _ _ => (by (with_reducible repeat (first | refine blk_drewN ?_ _ | refine blk_drew ?_ | refine blk_alloc ?_ _)); refine blk_far ?_ NB190_188.out _; (with_reducible repeat (first | refine blk_drewN ?_ _ | refine blk_drew ?_ | refine blk_alloc ?_ _)); refine blk_far ?_ NB190_188.out _; (with_reducible repeat (first | refine blk_drewN ?_ _ | refine blk_drew ?_ | refine blk_alloc ?_ _)); exact BK190.out), fun _ => GW190.out, fun _ => GE190.out, fun _ => NB171_190.out, fun _ => NB190_171.out, fun _ => NB177_190.out, fun _ => NB190_177.out, fun _ => (by (with_reducible repeat (first | refine blk_drewN ?_ _ | refine blk_drew ?_ | refine blk_alloc ?_ _)); refine blk_far ?_ NB187_188.out _; (with_reducible repeat (first | refine blk_drewN ?_ _ | refine blk_drew ?_ | refine blk_alloc ?_ _)); refine blk_far ?_ NB187_188.out _; (with_reducible repeat (first | refine blk_drewN ?_ _ | refine blk_drew ?_ | refine blk_alloc ?_ _)); exact BK187.out), fun _ => (by (with_reducible repeat (first | refine blk_drewN ?_ _ | refine blk_drew ?_ | refine blk_alloc ?_ _)); refine blk_put (cs := #[.int .i64 t181, .int .i64 0]) ?_ 1 _ (by first | rfl | (simp [*]; done)); (with_reducible repeat (first | refine blk_drewN ?_ _ | refine blk_drew ?_ | refine blk_alloc ?_ _)); refine blk_put (cs := #[.int .i64 0, .int .i64 0]) ?_ 0 _ (by first | rfl | (simp [*]; done)); (with_reducible repeat (first | refine blk_drewN ?_ _ | refine blk_drew ?_ | refine blk_alloc ?_ _)); exact BK188.out), fun h0_ => absurd ((hoff 14 (by kernel_rfl)).symm.trans h0_) (by decide), fun h0_ => absurd ((hoff 15 (by kernel_rfl)).symm.trans h0_) (by decide), Q_X8_, Q_X9_, Q_X10_, Q_X11_⟩
  refine steps_cons ?_ ?_
  ·rintro b a w' ⟨gb187, gb188, gb189, gb190, m8_, m9_, m10_, m11_, ha, Q_BK171, Q_BK177, Q_HB, Q_NB188_187, Q_NB187_188, Q_NB189_187, Q_NB187_189, Q_NB190_187, Q_NB187_190, Q_NB189_188, Q_NB188_189, Q_NB190_188, Q_NB188_190, Q_NB190_189, Q_NB189_190, Q_BK187, Q_GW187, Q_GE187, Q_NB171_187, Q_NB187_171, Q_NB177_187, Q_NB187_177, Q_BK188, Q_GW188, Q_GE188, Q_NB171_188, Q_NB188_171, Q_NB177_188, Q_NB188_177, Q_BK189, Q_GW189, Q_GE189, Q_NB171_189, Q_NB189_171, Q_NB177_189, Q_NB189_177, Q_BK190, Q_GW190, Q_GE190, Q_NB171_190, Q_NB190_171, Q_NB177_190, Q_NB190_177, Q_BK187_e12, Q_BK188_e13, Q_BK189_e14, Q_BK190_e15, Q_X8_, Q_X9_, Q_X10_, Q_X11_⟩ hb_ hon hoff
   refine ⟨_, rfl, fun K hK => ?_⟩
   have e7 : a.tmps[7]? = some (m10_) := by rw [ha]; exact putSel_on (e := (10, 7, m10_)) 10 rfl rfl (hon 10 (by kernel_rfl)) rfl
   rw [Q_X10_ (hon 10 (by kernel_rfl))] at e7
   have e18 : a.tmps[18]? = some (.agg #[.int .i64 t183, .int .i64 t184]) := by rw [ha]; exact putSel_on (e := (5, 18, .agg #[.int .i64 t183, .int .i64 t184])) 5 rfl rfl (hon 5 (by kernel_rfl)) rfl
   replace ha := Aside0.mk ha
   have BK171 := Aside0.mk Q_BK171
   have BK177 := Aside0.mk Q_BK177
   have HB := Aside0.mk Q_HB
   have NB188_187 := Aside0.mk (Q_NB188_187 (hon 8 (by kernel_rfl)) (hon 9 (by kernel_rfl)))
   have NB187_188 := Aside0.mk (Q_NB187_188 (hon 8 (by kernel_rfl)) (hon 9 (by kernel_rfl)))
   have NB189_187 := Aside0.mk (Q_NB189_187 (hon 8 (by kernel_rfl)) (hon 10 (by kernel_rfl)))
   have NB187_189 := Aside0.mk (Q_NB187_189 (hon 8 (by kernel_rfl)) (hon 10 (by kernel_rfl)))
   have NB190_187 := Aside0.mk (Q_NB190_187 (hon 8 (by kernel_rfl)) (hon 11 (by kernel_rfl)))
   have NB187_190 := Aside0.mk (Q_NB187_190 (hon 8 (by kernel_rfl)) (hon 11 (by kernel_rfl)))
   have NB189_188 := Aside0.mk (Q_NB189_188 (hon 9 (by kernel_rfl)) (hon 10 (by kernel_rfl)))
   have NB188_189 := Aside0.mk (Q_NB188_189 (hon 9 (by kernel_rfl)) (hon 10 (by kernel_rfl)))
   have NB190_188 := Aside0.mk (Q_NB190_188 (hon 9 (by kernel_rfl)) (hon 11 (by kernel_rfl)))
   have NB188_190 := Aside0.mk (Q_NB188_190 (hon 9 (by kernel_rfl)) (hon 11 (by kernel_rfl)))
   have NB190_189 := Aside0.mk (Q_NB190_189 (hon 10 (by kernel_rfl)) (hon 11 (by kernel_rfl)))
   have NB189_190 := Aside0.mk (Q_NB189_190 (hon 10 (by kernel_rfl)) (hon 11 (by kernel_rfl)))
   have GW187 := Aside0.mk (Q_GW187 (hon 8 (by kernel_rfl)))
   have GE187 := Aside0.mk (Q_GE187 (hon 8 (by kernel_rfl)))
   have NB171_187 := Aside0.mk (Q_NB171_187 (hon 8 (by kernel_rfl)))
   have NB187_171 := Aside0.mk (Q_NB187_171 (hon 8 (by kernel_rfl)))
   have NB177_187 := Aside0.mk (Q_NB177_187 (hon 8 (by kernel_rfl)))
   have NB187_177 := Aside0.mk (Q_NB187_177 (hon 8 (by kernel_rfl)))
   have GW188 := Aside0.mk (Q_GW188 (hon 9 (by kernel_rfl)))
   have GE188 := Aside0.mk (Q_GE188 (hon 9 (by kernel_rfl)))
   have NB171_188 := Aside0.mk (Q_NB171_188 (hon 9 (by kernel_rfl)))
   have NB188_171 := Aside0.mk (Q_NB188_171 (hon 9 (by kernel_rfl)))
   have NB177_188 := Aside0.mk (Q_NB177_188 (hon 9 (by kernel_rfl)))
   have NB188_177 := Aside0.mk (Q_NB188_177 (hon 9 (by kernel_rfl)))
   have BK189 := Aside0.mk (Q_BK189 (hon 10 (by kernel_rfl)) hb_)
   have GW189 := Aside0.mk (Q_GW189 (hon 10 (by kernel_rfl)))
   have GE189 := Aside0.mk (Q_GE189 (hon 10 (by kernel_rfl)))
   have NB171_189 := Aside0.mk (Q_NB171_189 (hon 10 (by kernel_rfl)))
   have NB189_171 := Aside0.mk (Q_NB189_171 (hon 10 (by kernel_rfl)))
   have NB177_189 := Aside0.mk (Q_NB177_189 (hon 10 (by kernel_rfl)))
   have NB189_177 := Aside0.mk (Q_NB189_177 (hon 10 (by kernel_rfl)))
   have BK190 := Aside0.mk (Q_BK190 (hon 11 (by kernel_rfl)) (hoff 15 (by kernel_rfl)))
   have GW190 := Aside0.mk (Q_GW190 (hon 11 (by kernel_rfl)))
   have GE190 := Aside0.mk (Q_GE190 (hon 11 (by kernel_rfl)))
   have NB171_190 := Aside0.mk (Q_NB171_190 (hon 11 (by kernel_rfl)))
   have NB190_171 := Aside0.mk (Q_NB190_171 (hon 11 (by kernel_rfl)))
   have NB177_190 := Aside0.mk (Q_NB177_190 (hon 11 (by kernel_rfl)))
   have NB190_177 := Aside0.mk (Q_NB190_177 (hon 11 (by kernel_rfl)))
   have BK187 := Aside0.mk (Q_BK187_e12 (hon 12 (by kernel_rfl)))
   have BK188 := Aside0.mk (Q_BK188_e13 (hon 13 (by kernel_rfl)))
   have hs30 : w'.cell? ⟨gb189, 0, none⟩ = some (.int .i64 0) := (blk_cell BK189.out 0).trans rfl
   have hfs30 := blk_frozen BK189.out 0
   have hns30_0 := NB171_189.out
   have hns30_1 := NB177_189.out
   have hns30_2 := NB187_189.out
   have hns30_3 := NB188_189.out
   have hns30_5 := NB190_189.out
   have hms30_0 := NB189_171.out
   have hms30_1 := NB189_177.out
   have hms30_2 := NB189_187.out
   have hms30_3 := NB189_188.out
   have hms30_5 := NB189_190.out
   have hs31 : w'.cell? ⟨gb189, 1, none⟩ = some (.int .i64 0) := (blk_cell BK189.out 1).trans rfl
   have hfs31 := blk_frozen BK189.out 1
   have hns31_0 := NB171_189.out
   have hns31_1 := NB177_189.out
   have hns31_2 := NB187_189.out
   have hns31_3 := NB188_189.out
   have hns31_5 := NB190_189.out
   have hms31_0 := NB189_171.out
   have hms31_1 := NB189_177.out
   have hms31_2 := NB189_187.out
   have hms31_3 := NB189_188.out
   have hms31_5 := NB189_190.out
   refine skip_ (w1 := ?_) (by rfl) rfl ?_ ?_
   rotate_left
   ·go_simp
    rfl
   refine hK.out _ _ ⟨gb187, gb188, gb189, gb190, m8_, m9_, m10_, m11_, (by rw [ha.out]; exact putSel_none (v := undef) rfl), (by (with_reducible repeat (first | refine blk_drewN ?_ _ | refine blk_drew ?_ | refine blk_alloc ?_ _)); refine blk_far ?_ NB171_189.out _; (with_reducible repeat (first | refine blk_drewN ?_ _ | refine blk_drew ?_ | refine blk_alloc ?_ _)); refine blk_far ?_ NB171_189.out _; (with_reducible repeat (first | refine blk_drewN ?_ _ | refine blk_drew ?_ | refine blk_alloc ?_ _)); exact BK171.out), (by (with_reducible repeat (first | refine blk_drewN ?_ _ | refine blk_drew ?_ | refine blk_alloc ?_ _)); refine blk_far ?_ NB177_189.out _; (with_reducible repeat (first | refine blk_drewN ?_ _ | refine blk_drew ?_ | refine blk_alloc ?_ _)); refine blk_far ?_ NB177_189.out _; (with_reducible repeat (first | refine blk_drewN ?_ _ | refine blk_drew ?_ | refine blk_alloc ?_ _)); exact BK177.out), (by repeat (first | (with_reducible first | exact HB.out | apply below_alloc | apply pw_below_drewN | apply below_drew1 | refine below_set ?_ GE171.out | refine below_set ?_ GE177.out | refine below_set ?_ GE187.out | refine below_set ?_ GE188.out | refine below_set ?_ GE189.out | refine below_set ?_ GE190.out) | exact HB.out)), fun _ _ => NB188_187.out, fun _ _ => NB187_188.out, fun _ _ => NB189_187.out, fun _ _ => NB187_189.out, fun _ _ => NB190_187.out, fun _ _ => NB187_190.out, fun _ _ => NB189_188.out, fun _ _ => NB188_189.out, fun _ _ => NB190_188.out, fun _ _ => NB188_190.out, fun _ _ => NB190_189.out, fun _ _ => NB189_190.out, fun _ h1_ => absurd ((hon 12 (by kernel_rfl)).symm.trans h1_) (by decide), fun _ => GW187.out, fun _ => GE187.out, fun _ => NB171_187.out, fun _ => NB187_171.out, fun _ => NB177_187.out, fun _ => NB187_177.out, fun _ h1_ => absurd ((hon 13 (by kernel_rfl)).symm.trans h1_) (by decide), fun _ => GW188.out, fun _ => GE188.out, fun _ => NB171_188.out, fun _ => NB188_171.out, fun _ => NB177_188.out, fun _ => NB188_177.out, fun _ h1_ => absurd ((up_self b 14).symm.trans h1_) (by decide), fun _ => GW189.out, fun _ => GE189.out, fun _ => NB171_189.out, fun _ => NB189_171.out, fun _ => NB177_189.out, fun _ => NB189_177.out, fun _ _ => (by (with_reducible repeat (first | refine blk_drewN ?_ _ | refine blk_drew ?_ | refine blk_alloc ?_ _)); refine blk_far ?_ NB190_189.out _; (with_reducible repeat (first | refine blk_drewN ?_ _ | refine blk_drew ?_ | refine blk_alloc ?_ _)); refine blk_far ?_ NB190_189.out _; (with_reducible repeat (first | refine blk_drewN ?_ _ | refine blk_drew ?_ | refine blk_alloc ?_ _)); exact BK190.out), fun _ => GW190.out, fun _ => GE190.out, fun _ => NB171_190.out, fun _ => NB190_171.out, fun _ => NB177_190.out, fun _ => NB190_177.out, fun _ => (by (with_reducible repeat (first | refine blk_drewN ?_ _ | refine blk_drew ?_ | refine blk_alloc ?_ _)); refine blk_far ?_ NB187_189.out _; (with_reducible repeat (first | refine blk_drewN ?_ _ | refine blk_drew ?_ | refine blk_alloc ?_ _)); refine blk_far ?_ NB187_189.out _; (with_reducible repeat (first | refine blk_drewN ?_ _ | refine blk_drew ?_ | refine blk_alloc ?_ _)); exact BK187.out), fun _ => (by (with_reducible repeat (first | refine blk_drewN ?_ _ | refine blk_drew ?_ | refine blk_alloc ?_ _)); refine blk_far ?_ NB188_189.out _; (with_reducible repeat (first | refine blk_drewN ?_ _ | refine blk_drew ?_ | refine blk_alloc ?_ _)); refine blk_far ?_ NB188_189.out _; (with_reducible repeat (first | refine blk_drewN ?_ _ | refine blk_drew ?_ | refine blk_alloc ?_ _)); exact BK188.out), fun _ => (by (with_reducible repeat (first | refine blk_drewN ?_ _ | refine blk_drew ?_ | refine blk_alloc ?_ _)); refine blk_put (cs := #[.int .i64 t183, .int .i64 0]) ?_ 1 _ (by first | rfl | (simp [*]; done)); (with_reducible repeat (first | refine blk_drewN ?_ _ | refine blk_drew ?_ | refine blk_alloc ?_ _)); refine blk_put (cs := #[.int .i64 0, .int .i64 0]) ?_ 0 _ (by first | rfl | (simp [*]; done)); (with_reducible repeat (first | refine blk_drewN ?_ _ | refine blk_drew ?_ | refine blk_alloc ?_ _)); exact BK189.out), fun h0_ => absurd ((hoff 15 (by kernel_rfl)).symm.trans h0_) (by decide), Q_X8_, Q_X9_, Q_X10_, Q_X11_⟩
  refine steps_cons ?_ ?_
  ·rintro b a w' ⟨gb187, gb188, gb189, gb190, m8_, m9_, m10_, m11_, ha, Q_BK171, Q_BK177, Q_HB, Q_NB188_187, Q_NB187_188, Q_NB189_187, Q_NB187_189, Q_NB190_187, Q_NB187_190, Q_NB189_188, Q_NB188_189, Q_NB190_188, Q_NB188_190, Q_NB190_189, Q_NB189_190, Q_BK187, Q_GW187, Q_GE187, Q_NB171_187, Q_NB187_171, Q_NB177_187, Q_NB187_177, Q_BK188, Q_GW188, Q_GE188, Q_NB171_188, Q_NB188_171, Q_NB177_188, Q_NB188_177, Q_BK189, Q_GW189, Q_GE189, Q_NB171_189, Q_NB189_171, Q_NB177_189, Q_NB189_177, Q_BK190, Q_GW190, Q_GE190, Q_NB171_190, Q_NB190_171, Q_NB177_190, Q_NB190_177, Q_BK187_e12, Q_BK188_e13, Q_BK189_e14, Q_BK190_e15, Q_X8_, Q_X9_, Q_X10_, Q_X11_⟩ hb_ hon hoff
   refine ⟨_, rfl, fun K hK => ?_⟩
   have e8 : a.tmps[8]? = some (m11_) := by rw [ha]; exact putSel_on (e := (11, 8, m11_)) 11 rfl rfl (hon 11 (by kernel_rfl)) rfl
   rw [Q_X11_ (hon 11 (by kernel_rfl))] at e8
   have e20 : a.tmps[20]? = some (.agg #[.int .i64 t185, .int .i64 t186]) := by rw [ha]; exact putSel_on (e := (7, 20, .agg #[.int .i64 t185, .int .i64 t186])) 7 rfl rfl (hon 7 (by kernel_rfl)) rfl
   replace ha := Aside0.mk ha
   have BK171 := Aside0.mk Q_BK171
   have BK177 := Aside0.mk Q_BK177
   have HB := Aside0.mk Q_HB
   have NB188_187 := Aside0.mk (Q_NB188_187 (hon 8 (by kernel_rfl)) (hon 9 (by kernel_rfl)))
   have NB187_188 := Aside0.mk (Q_NB187_188 (hon 8 (by kernel_rfl)) (hon 9 (by kernel_rfl)))
   have NB189_187 := Aside0.mk (Q_NB189_187 (hon 8 (by kernel_rfl)) (hon 10 (by kernel_rfl)))
   have NB187_189 := Aside0.mk (Q_NB187_189 (hon 8 (by kernel_rfl)) (hon 10 (by kernel_rfl)))
   have NB190_187 := Aside0.mk (Q_NB190_187 (hon 8 (by kernel_rfl)) (hon 11 (by kernel_rfl)))
   have NB187_190 := Aside0.mk (Q_NB187_190 (hon 8 (by kernel_rfl)) (hon 11 (by kernel_rfl)))
   have NB189_188 := Aside0.mk (Q_NB189_188 (hon 9 (by kernel_rfl)) (hon 10 (by kernel_rfl)))
   have NB188_189 := Aside0.mk (Q_NB188_189 (hon 9 (by kernel_rfl)) (hon 10 (by kernel_rfl)))
   have NB190_188 := Aside0.mk (Q_NB190_188 (hon 9 (by kernel_rfl)) (hon 11 (by kernel_rfl)))
   have NB188_190 := Aside0.mk (Q_NB188_190 (hon 9 (by kernel_rfl)) (hon 11 (by kernel_rfl)))
   have NB190_189 := Aside0.mk (Q_NB190_189 (hon 10 (by kernel_rfl)) (hon 11 (by kernel_rfl)))
   have NB189_190 := Aside0.mk (Q_NB189_190 (hon 10 (by kernel_rfl)) (hon 11 (by kernel_rfl)))
   have GW187 := Aside0.mk (Q_GW187 (hon 8 (by kernel_rfl)))
   have GE187 := Aside0.mk (Q_GE187 (hon 8 (by kernel_rfl)))
   have NB171_187 := Aside0.mk (Q_NB171_187 (hon 8 (by kernel_rfl)))
   have NB187_171 := Aside0.mk (Q_NB187_171 (hon 8 (by kernel_rfl)))
   have NB177_187 := Aside0.mk (Q_NB177_187 (hon 8 (by kernel_rfl)))
   have NB187_177 := Aside0.mk (Q_NB187_177 (hon 8 (by kernel_rfl)))
   have GW188 := Aside0.mk (Q_GW188 (hon 9 (by kernel_rfl)))
   have GE188 := Aside0.mk (Q_GE188 (hon 9 (by kernel_rfl)))
   have NB171_188 := Aside0.mk (Q_NB171_188 (hon 9 (by kernel_rfl)))
   have NB188_171 := Aside0.mk (Q_NB188_171 (hon 9 (by kernel_rfl)))
   have NB177_188 := Aside0.mk (Q_NB177_188 (hon 9 (by kernel_rfl)))
   have NB188_177 := Aside0.mk (Q_NB188_177 (hon 9 (by kernel_rfl)))
   have GW189 := Aside0.mk (Q_GW189 (hon 10 (by kernel_rfl)))
   have GE189 := Aside0.mk (Q_GE189 (hon 10 (by kernel_rfl)))
   have NB171_189 := Aside0.mk (Q_NB171_189 (hon 10 (by kernel_rfl)))
   have NB189_171 := Aside0.mk (Q_NB189_171 (hon 10 (by kernel_rfl)))
   have NB177_189 := Aside0.mk (Q_NB177_189 (hon 10 (by kernel_rfl)))
   have NB189_177 := Aside0.mk (Q_NB189_177 (hon 10 (by kernel_rfl)))
   have BK190 := Aside0.mk (Q_BK190 (hon 11 (by kernel_rfl)) hb_)
   have GW190 := Aside0.mk (Q_GW190 (hon 11 (by kernel_rfl)))
   have GE190 := Aside0.mk (Q_GE190 (hon 11 (by kernel_rfl)))
   have NB171_190 := Aside0.mk (Q_NB171_190 (hon 11 (by kernel_rfl)))
   have NB190_171 := Aside0.mk (Q_NB190_171 (hon 11 (by kernel_rfl)))
   have NB177_190 := Aside0.mk (Q_NB177_190 (hon 11 (by kernel_rfl)))
   have NB190_177 := Aside0.mk (Q_NB190_177 (hon 11 (by kernel_rfl)))
   have BK187 := Aside0.mk (Q_BK187_e12 (hon 12 (by kernel_rfl)))
   have BK188 := Aside0.mk (Q_BK188_e13 (hon 13 (by kernel_rfl)))
   have BK189 := Aside0.mk (Q_BK189_e14 (hon 14 (by kernel_rfl)))
   have hs32 : w'.cell? ⟨gb190, 0, none⟩ = some (.int .i64 0) := (blk_cell BK190.out 0).trans rfl
   have hfs32 := blk_frozen BK190.out 0
   have hns32_0 := NB171_190.out
   have hns32_1 := NB177_190.out
   have hns32_2 := NB187_190.out
   have hns32_3 := NB188_190.out
   have hns32_4 := NB189_190.out
   have hms32_0 := NB190_171.out
   have hms32_1 := NB190_177.out
   have hms32_2 := NB190_187.out
   have hms32_3 := NB190_188.out
   have hms32_4 := NB190_189.out
   have hs33 : w'.cell? ⟨gb190, 1, none⟩ = some (.int .i64 0) := (blk_cell BK190.out 1).trans rfl
   have hfs33 := blk_frozen BK190.out 1
   have hns33_0 := NB171_190.out
   have hns33_1 := NB177_190.out
   have hns33_2 := NB187_190.out
   have hns33_3 := NB188_190.out
   have hns33_4 := NB189_190.out
   have hms33_0 := NB190_171.out
   have hms33_1 := NB190_177.out
   have hms33_2 := NB190_187.out
   have hms33_3 := NB190_188.out
   have hms33_4 := NB190_189.out
   refine skip_ (w1 := ?_) (by rfl) rfl ?_ ?_
   rotate_left
   ·go_simp
    rfl
   refine hK.out _ _ ⟨gb187, gb188, gb189, gb190, m8_, m9_, m10_, m11_, (by rw [ha.out]; exact putSel_none (v := undef) rfl), (by (with_reducible repeat (first | refine blk_drewN ?_ _ | refine blk_drew ?_ | refine blk_alloc ?_ _)); refine blk_far ?_ NB171_190.out _; (with_reducible repeat (first | refine blk_drewN ?_ _ | refine blk_drew ?_ | refine blk_alloc ?_ _)); refine blk_far ?_ NB171_190.out _; (with_reducible repeat (first | refine blk_drewN ?_ _ | refine blk_drew ?_ | refine blk_alloc ?_ _)); exact BK171.out), (by (with_reducible repeat (first | refine blk_drewN ?_ _ | refine blk_drew ?_ | refine blk_alloc ?_ _)); refine blk_far ?_ NB177_190.out _; (with_reducible repeat (first | refine blk_drewN ?_ _ | refine blk_drew ?_ | refine blk_alloc ?_ _)); refine blk_far ?_ NB177_190.out _; (with_reducible repeat (first | refine blk_drewN ?_ _ | refine blk_drew ?_ | refine blk_alloc ?_ _)); exact BK177.out), (by repeat (first | (with_reducible first | exact HB.out | apply below_alloc | apply pw_below_drewN | apply below_drew1 | refine below_set ?_ GE171.out | refine below_set ?_ GE177.out | refine below_set ?_ GE187.out | refine below_set ?_ GE188.out | refine below_set ?_ GE189.out | refine below_set ?_ GE190.out) | exact HB.out)), fun _ _ => NB188_187.out, fun _ _ => NB187_188.out, fun _ _ => NB189_187.out, fun _ _ => NB187_189.out, fun _ _ => NB190_187.out, fun _ _ => NB187_190.out, fun _ _ => NB189_188.out, fun _ _ => NB188_189.out, fun _ _ => NB190_188.out, fun _ _ => NB188_190.out, fun _ _ => NB190_189.out, fun _ _ => NB189_190.out, fun _ h1_ => absurd ((hon 12 (by kernel_rfl)).symm.trans h1_) (by decide), fun _ => GW187.out, fun _ => GE187.out, fun _ => NB171_187.out, fun _ => NB187_171.out, fun _ => NB177_187.out, fun _ => NB187_177.out, fun _ h1_ => absurd ((hon 13 (by kernel_rfl)).symm.trans h1_) (by decide), fun _ => GW188.out, fun _ => GE188.out, fun _ => NB171_188.out, fun _ => NB188_171.out, fun _ => NB177_188.out, fun _ => NB188_177.out, fun _ h1_ => absurd ((hon 14 (by kernel_rfl)).symm.trans h1_) (by decide), fun _ => GW189.out, fun _ => GE189.out, fun _ => NB171_189.out, fun _ => NB189_171.out, fun _ => NB177_189.out, fun _ => NB189_177.out, fun _ h1_ => absurd ((up_self b 15).symm.trans h1_) (by decide), fun _ => GW190.out, fun _ => GE190.out, fun _ => NB171_190.out, fun _ => NB190_171.out, fun _ => NB177_190.out, fun _ => NB190_177.out, fun _ => (by (with_reducible repeat (first | refine blk_drewN ?_ _ | refine blk_drew ?_ | refine blk_alloc ?_ _)); refine blk_far ?_ NB187_190.out _; (with_reducible repeat (first | refine blk_drewN ?_ _ | refine blk_drew ?_ | refine blk_alloc ?_ _)); refine blk_far ?_ NB187_190.out _; (with_reducible repeat (first | refine blk_drewN ?_ _ | refine blk_drew ?_ | refine blk_alloc ?_ _)); exact BK187.out), fun _ => (by (with_reducible repeat (first | refine blk_drewN ?_ _ | refine blk_drew ?_ | refine blk_alloc ?_ _)); refine blk_far ?_ NB188_190.out _; (with_reducible repeat (first | refine blk_drewN ?_ _ | refine blk_drew ?_ | refine blk_alloc ?_ _)); refine blk_far ?_ NB188_190.out _; (with_reducible repeat (first | refine blk_drewN ?_ _ | refine blk_drew ?_ | refine blk_alloc ?_ _)); exact BK188.out), fun _ => (by (with_reducible repeat (first | refine blk_drewN ?_ _ | refine blk_drew ?_ | refine blk_alloc ?_ _)); refine blk_far ?_ NB189_190.out _; (with_reducible repeat (first | refine blk_drewN ?_ _ | refine blk_drew ?_ | refine blk_alloc ?_ _)); refine blk_far ?_ NB189_190.out _; (with_reducible repeat (first | refine blk_drewN ?_ _ | refine blk_drew ?_ | refine blk_alloc ?_ _)); exact BK189.out), fun _ => (by (with_reducible repeat (first | refine blk_drewN ?_ _ | refine blk_drew ?_ | refine blk_alloc ?_ _)); refine blk_put (cs := #[.int .i64 t185, .int .i64 0]) ?_ 1 _ (by first | rfl | (simp [*]; done)); (with_reducible repeat (first | refine blk_drewN ?_ _ | refine blk_drew ?_ | refine blk_alloc ?_ _)); refine blk_put (cs := #[.int .i64 0, .int .i64 0]) ?_ 0 _ (by first | rfl | (simp [*]; done)); (with_reducible repeat (first | refine blk_drewN ?_ _ | refine blk_drew ?_ | refine blk_alloc ?_ _)); exact BK190.out), Q_X8_, Q_X9_, Q_X10_, Q_X11_⟩
  exact steps_nil
 rintro b a w33 hall ⟨gb187, gb188, gb189, gb190, m8_, m9_, m10_, m11_, ha, Q_BK171, Q_BK177, Q_HB, Q_NB188_187, Q_NB187_188, Q_NB189_187, Q_NB187_189, Q_NB190_187, Q_NB187_190, Q_NB189_188, Q_NB188_189, Q_NB190_188, Q_NB188_190, Q_NB190_189, Q_NB189_190, Q_BK187, Q_GW187, Q_GE187, Q_NB171_187, Q_NB187_171, Q_NB177_187, Q_NB187_177, Q_BK188, Q_GW188, Q_GE188, Q_NB171_188, Q_NB188_171, Q_NB177_188, Q_NB188_177, Q_BK189, Q_GW189, Q_GE189, Q_NB171_189, Q_NB189_171, Q_NB177_189, Q_NB189_177, Q_BK190, Q_GW190, Q_GE190, Q_NB171_190, Q_NB190_171, Q_NB177_190, Q_NB190_177, Q_BK187_e12, Q_BK188_e13, Q_BK189_e14, Q_BK190_e15, Q_X8_, Q_X9_, Q_X10_, Q_X11_⟩
 clear BK171 BK177 HB
 have hb0_ := hall 0 (by kernel_rfl)
 have hb1_ := hall 1 (by kernel_rfl)
 have hb2_ := hall 2 (by kernel_rfl)
 have hb3_ := hall 3 (by kernel_rfl)
 have hb4_ := hall 4 (by kernel_rfl)
 have hb5_ := hall 5 (by kernel_rfl)
 have hb6_ := hall 6 (by kernel_rfl)
 have hb7_ := hall 7 (by kernel_rfl)
 have hb8_ := hall 8 (by kernel_rfl)
 have hb9_ := hall 9 (by kernel_rfl)
 have hb10_ := hall 10 (by kernel_rfl)
 have hb11_ := hall 11 (by kernel_rfl)
 have hb12_ := hall 12 (by kernel_rfl)
 have hb13_ := hall 13 (by kernel_rfl)
 have hb14_ := hall 14 (by kernel_rfl)
 have hb15_ := hall 15 (by kernel_rfl)
 subst ha
 obtain rfl := Q_X8_ hb8_
 obtain rfl := Q_X9_ hb9_
 obtain rfl := Q_X10_ hb10_
 obtain rfl := Q_X11_ hb11_
 simp only [putSel, hb0_, hb1_, hb2_, hb3_, hb4_, hb5_, hb6_, hb7_, hb8_, hb9_, hb10_, hb11_, hb12_, hb13_, hb14_, hb15_, if_true, Act.put, List.setIfInBounds_toArray, List.set_cons_zero, List.set_cons_succ]
 have BK171 := Aside0.mk Q_BK171
 clear Q_BK171
 have BK177 := Aside0.mk Q_BK177
 clear Q_BK177
 have HB := Aside0.mk Q_HB
 clear Q_HB
 have NB188_187 := Aside0.mk (Q_NB188_187 hb8_ hb9_)
 clear Q_NB188_187
 have NB187_188 := Aside0.mk (Q_NB187_188 hb8_ hb9_)
 clear Q_NB187_188
 have NB189_187 := Aside0.mk (Q_NB189_187 hb8_ hb10_)
 clear Q_NB189_187
 have NB187_189 := Aside0.mk (Q_NB187_189 hb8_ hb10_)
 clear Q_NB187_189
 have NB190_187 := Aside0.mk (Q_NB190_187 hb8_ hb11_)
 clear Q_NB190_187
 have NB187_190 := Aside0.mk (Q_NB187_190 hb8_ hb11_)
 clear Q_NB187_190
 have NB189_188 := Aside0.mk (Q_NB189_188 hb9_ hb10_)
 clear Q_NB189_188
 have NB188_189 := Aside0.mk (Q_NB188_189 hb9_ hb10_)
 clear Q_NB188_189
 have NB190_188 := Aside0.mk (Q_NB190_188 hb9_ hb11_)
 clear Q_NB190_188
 have NB188_190 := Aside0.mk (Q_NB188_190 hb9_ hb11_)
 clear Q_NB188_190
 have NB190_189 := Aside0.mk (Q_NB190_189 hb10_ hb11_)
 clear Q_NB190_189
 have NB189_190 := Aside0.mk (Q_NB189_190 hb10_ hb11_)
 clear Q_NB189_190
 clear Q_BK187
 have GW187 := Aside0.mk (Q_GW187 hb8_)
 clear Q_GW187
 have GE187 := Aside0.mk (Q_GE187 hb8_)
 clear Q_GE187
 have NB171_187 := Aside0.mk (Q_NB171_187 hb8_)
 clear Q_NB171_187
 have NB187_171 := Aside0.mk (Q_NB187_171 hb8_)
 clear Q_NB187_171
 have NB177_187 := Aside0.mk (Q_NB177_187 hb8_)
 clear Q_NB177_187
 have NB187_177 := Aside0.mk (Q_NB187_177 hb8_)
 clear Q_NB187_177
 clear Q_BK188
 have GW188 := Aside0.mk (Q_GW188 hb9_)
 clear Q_GW188
 have GE188 := Aside0.mk (Q_GE188 hb9_)
 clear Q_GE188
 have NB171_188 := Aside0.mk (Q_NB171_188 hb9_)
 clear Q_NB171_188
 have NB188_171 := Aside0.mk (Q_NB188_171 hb9_)
 clear Q_NB188_171
 have NB177_188 := Aside0.mk (Q_NB177_188 hb9_)
 clear Q_NB177_188
 have NB188_177 := Aside0.mk (Q_NB188_177 hb9_)
 clear Q_NB188_177
 clear Q_BK189
 have GW189 := Aside0.mk (Q_GW189 hb10_)
 clear Q_GW189
 have GE189 := Aside0.mk (Q_GE189 hb10_)
 clear Q_GE189
 have NB171_189 := Aside0.mk (Q_NB171_189 hb10_)
 clear Q_NB171_189
 have NB189_171 := Aside0.mk (Q_NB189_171 hb10_)
 clear Q_NB189_171
 have NB177_189 := Aside0.mk (Q_NB177_189 hb10_)
 clear Q_NB177_189
 have NB189_177 := Aside0.mk (Q_NB189_177 hb10_)
 clear Q_NB189_177
 clear Q_BK190
 have GW190 := Aside0.mk (Q_GW190 hb11_)
 clear Q_GW190
 have GE190 := Aside0.mk (Q_GE190 hb11_)
 clear Q_GE190
 have NB171_190 := Aside0.mk (Q_NB171_190 hb11_)
 clear Q_NB171_190
 have NB190_171 := Aside0.mk (Q_NB190_171 hb11_)
 clear Q_NB190_171
 have NB177_190 := Aside0.mk (Q_NB177_190 hb11_)
 clear Q_NB177_190
 have NB190_177 := Aside0.mk (Q_NB190_177 hb11_)
 clear Q_NB190_177
 have BK187 := Aside0.mk (Q_BK187_e12 hb12_)
 clear Q_BK187_e12
 have BK188 := Aside0.mk (Q_BK188_e13 hb13_)
 clear Q_BK188_e13
 have BK189 := Aside0.mk (Q_BK189_e14 hb14_)
 clear Q_BK189_e14
 have BK190 := Aside0.mk (Q_BK190_e15 hb15_)
 clear Q_BK190_e15
 clear hall hb0_ hb1_ hb2_ hb3_ hb4_ hb5_ hb6_ hb7_ hb8_ hb9_ hb10_ hb11_ hb12_ hb13_ hb14_ hb15_
 go_upto_region 4 with (fail)
 go_cut [56] (fun v56 wc => ∃ (kq : Nat) (x56_7 : Bool), v56 = .bool x56_7 ∧ Aside0 (fettlelaw07_HeaderPlaces.j0 kq t178 x56_7 t172 t173 t174 t175 t176 t179 t180 t181 t182 t183 t184 t185 t186 = some r) ∧ Aside0 (kq ≤ k) ∧ Aside0 (wc.heap[gb171]? = some (.cells #[.int .i64 a0_0, .int .i64 a0_1, .int .i64 a0_2, .int .i64 a0_3, .bool a0_4] 69 (0, 0))) ∧ Aside0 (wc.heap[gb177]? = some (.cells #[.int .i64 t172, .int .i64 t173, .int .i64 t174, .int .i64 t175, .bool t176] 70 (0, 0))) ∧ Aside0 (wc.heap[gb187]? = some (.cells #[.int .i64 t179, .int .i64 t180] 74 (0, 0))) ∧ Aside0 (wc.heap[gb188]? = some (.cells #[.int .i64 t181, .int .i64 t182] 74 (0, 0))) ∧ Aside0 (wc.heap[gb189]? = some (.cells #[.int .i64 t183, .int .i64 t184] 74 (0, 0))) ∧ Aside0 (wc.heap[gb190]? = some (.cells #[.int .i64 t185, .int .i64 t186] 74 (0, 0))) ∧ Aside0 (Below w.heap.size w wc))
 case first =>
  have H := HC8.out
  clear HC8
  replace H := Option.bind_eq_some_iff.mp H
  obtain ⟨t191, A340, H⟩ := H
  replace H : (if t191 = true then ((header_Header_Cluster.f a0_0 a0_1 a0_2 a0_3 a0_4).bind fun t192 => (if t192 = t178 then ((header_Header_Entries.f a0_0 a0_1 a0_2 a0_3 a0_4).bind fun t193 => (if t193 = (wrap64 (Int.tdiv t178 8)) then ((header_Header_Guest.f a0_0 a0_1 a0_2 a0_3 a0_4).bind fun t194 => ((fettleref07_Head_Guest.f k t172 t173 t174 t175 t176).bind fun t195 => (if t194 = t195 then ((header_Header_First.f a0_0 a0_1 a0_2 a0_3 a0_4).bind fun t196 => ((fettleref07_Head_At.f k t172 t173 t174 t175 t176 5).bind fun t197 => (if t196 = t197 then ((header_Header_Least.f a0_0 a0_1 a0_2 a0_3 a0_4).bind fun t198 => ((fettleref07_Head_Least.f k t172 t173 t174 t175 t176).bind fun t199 => (fettlelaw07_HeaderPlaces.j0 k t178 (t198 != t199) t172 t173 t174 t175 t176 t179 t180 t181 t182 t183 t184 t185 t186))) else (none)))) else (none)))) else (none))) else (none))) else (none)) = some r := H
  have A34 := Aside0.mk A340
  clear A340
  by_cases c35 : t191 = true
  ·subst c35
   have H1 : ((header_Header_Cluster.f a0_0 a0_1 a0_2 a0_3 a0_4).bind fun t192 => (if t192 = t178 then ((header_Header_Entries.f a0_0 a0_1 a0_2 a0_3 a0_4).bind fun t193 => (if t193 = (wrap64 (Int.tdiv t178 8)) then ((header_Header_Guest.f a0_0 a0_1 a0_2 a0_3 a0_4).bind fun t194 => ((fettleref07_Head_Guest.f k t172 t173 t174 t175 t176).bind fun t195 => (if t194 = t195 then ((header_Header_First.f a0_0 a0_1 a0_2 a0_3 a0_4).bind fun t196 => ((fettleref07_Head_At.f k t172 t173 t174 t175 t176 5).bind fun t197 => (if t196 = t197 then ((header_Header_Least.f a0_0 a0_1 a0_2 a0_3 a0_4).bind fun t198 => ((fettleref07_Head_Least.f k t172 t173 t174 t175 t176).bind fun t199 => (fettlelaw07_HeaderPlaces.j0 k t178 (t198 != t199) t172 t173 t174 t175 t176 t179 t180 t181 t182 t183 t184 t185 t186))) else (none)))) else (none)))) else (none))) else (none))) = some r := by rw [if_pos rfl] at H; exact H
   clear H
   have H := H1
   clear H1
   replace H := Option.bind_eq_some_iff.mp H
   obtain ⟨t192, A360, H⟩ := H
   replace H : (if t192 = t178 then ((header_Header_Entries.f a0_0 a0_1 a0_2 a0_3 a0_4).bind fun t193 => (if t193 = (wrap64 (Int.tdiv t178 8)) then ((header_Header_Guest.f a0_0 a0_1 a0_2 a0_3 a0_4).bind fun t194 => ((fettleref07_Head_Guest.f k t172 t173 t174 t175 t176).bind fun t195 => (if t194 = t195 then ((header_Header_First.f a0_0 a0_1 a0_2 a0_3 a0_4).bind fun t196 => ((fettleref07_Head_At.f k t172 t173 t174 t175 t176 5).bind fun t197 => (if t196 = t197 then ((header_Header_Least.f a0_0 a0_1 a0_2 a0_3 a0_4).bind fun t198 => ((fettleref07_Head_Least.f k t172 t173 t174 t175 t176).bind fun t199 => (fettlelaw07_HeaderPlaces.j0 k t178 (t198 != t199) t172 t173 t174 t175 t176 t179 t180 t181 t182 t183 t184 t185 t186))) else (none)))) else (none)))) else (none))) else (none)) = some r := H
   have A36 := Aside0.mk A360
   clear A360
   by_cases c37 : t192 = t178
   ·rw [if_pos c37] at H
    have c37b0 : (t192 == t178) = true := beq_iff_eq.mpr c37
    have c37b1 : (t192 != t178) = false := bne_eq_false_iff_eq.mpr c37
    clear c37
    (first | rw [c37b0] | (simp only [i64_w, i32_w]; rw [c37b0]) | skip)
    replace H := Option.bind_eq_some_iff.mp H
    obtain ⟨t193, A380, H⟩ := H
    replace H : (if t193 = (wrap64 (Int.tdiv t178 8)) then ((header_Header_Guest.f a0_0 a0_1 a0_2 a0_3 a0_4).bind fun t194 => ((fettleref07_Head_Guest.f k t172 t173 t174 t175 t176).bind fun t195 => (if t194 = t195 then ((header_Header_First.f a0_0 a0_1 a0_2 a0_3 a0_4).bind fun t196 => ((fettleref07_Head_At.f k t172 t173 t174 t175 t176 5).bind fun t197 => (if t196 = t197 then ((header_Header_Least.f a0_0 a0_1 a0_2 a0_3 a0_4).bind fun t198 => ((fettleref07_Head_Least.f k t172 t173 t174 t175 t176).bind fun t199 => (fettlelaw07_HeaderPlaces.j0 k t178 (t198 != t199) t172 t173 t174 t175 t176 t179 t180 t181 t182 t183 t184 t185 t186))) else (none)))) else (none)))) else (none)) = some r := H
    have A38 := Aside0.mk A380
    clear A380
    by_cases c39 : t193 = (wrap64 (Int.tdiv t178 8))
    ·rw [if_pos c39] at H
     have c39b0 : (t193 == (wrap64 (Int.tdiv t178 8))) = true := beq_iff_eq.mpr c39
     have c39b1 : (t193 != (wrap64 (Int.tdiv t178 8))) = false := bne_eq_false_iff_eq.mpr c39
     clear c39
     replace H := Option.bind_eq_some_iff.mp H
     obtain ⟨t194, A400, H⟩ := H
     replace H : ((fettleref07_Head_Guest.f k t172 t173 t174 t175 t176).bind fun t195 => (if t194 = t195 then ((header_Header_First.f a0_0 a0_1 a0_2 a0_3 a0_4).bind fun t196 => ((fettleref07_Head_At.f k t172 t173 t174 t175 t176 5).bind fun t197 => (if t196 = t197 then ((header_Header_Least.f a0_0 a0_1 a0_2 a0_3 a0_4).bind fun t198 => ((fettleref07_Head_Least.f k t172 t173 t174 t175 t176).bind fun t199 => (fettlelaw07_HeaderPlaces.j0 k t178 (t198 != t199) t172 t173 t174 t175 t176 t179 t180 t181 t182 t183 t184 t185 t186))) else (none)))) else (none))) = some r := H
     have A40 := Aside0.mk A400
     clear A400
     replace H := Option.bind_eq_some_iff.mp H
     obtain ⟨t195, A410, H⟩ := H
     replace H : (if t194 = t195 then ((header_Header_First.f a0_0 a0_1 a0_2 a0_3 a0_4).bind fun t196 => ((fettleref07_Head_At.f k t172 t173 t174 t175 t176 5).bind fun t197 => (if t196 = t197 then ((header_Header_Least.f a0_0 a0_1 a0_2 a0_3 a0_4).bind fun t198 => ((fettleref07_Head_Least.f k t172 t173 t174 t175 t176).bind fun t199 => (fettlelaw07_HeaderPlaces.j0 k t178 (t198 != t199) t172 t173 t174 t175 t176 t179 t180 t181 t182 t183 t184 t185 t186))) else (none)))) else (none)) = some r := H
     have A41 := Aside0.mk A410
     clear A410
     by_cases c42 : t194 = t195
     ·rw [if_pos c42] at H
      have c42b0 : (t194 == t195) = true := beq_iff_eq.mpr c42
      have c42b1 : (t194 != t195) = false := bne_eq_false_iff_eq.mpr c42
      clear c42
      replace H := Option.bind_eq_some_iff.mp H
      obtain ⟨t196, A430, H⟩ := H
      replace H : ((fettleref07_Head_At.f k t172 t173 t174 t175 t176 5).bind fun t197 => (if t196 = t197 then ((header_Header_Least.f a0_0 a0_1 a0_2 a0_3 a0_4).bind fun t198 => ((fettleref07_Head_Least.f k t172 t173 t174 t175 t176).bind fun t199 => (fettlelaw07_HeaderPlaces.j0 k t178 (t198 != t199) t172 t173 t174 t175 t176 t179 t180 t181 t182 t183 t184 t185 t186))) else (none))) = some r := H
      have A43 := Aside0.mk A430
      clear A430
      replace H := Option.bind_eq_some_iff.mp H
      obtain ⟨t197, A440, H⟩ := H
      replace H : (if t196 = t197 then ((header_Header_Least.f a0_0 a0_1 a0_2 a0_3 a0_4).bind fun t198 => ((fettleref07_Head_Least.f k t172 t173 t174 t175 t176).bind fun t199 => (fettlelaw07_HeaderPlaces.j0 k t178 (t198 != t199) t172 t173 t174 t175 t176 t179 t180 t181 t182 t183 t184 t185 t186))) else (none)) = some r := H
      have A44 := Aside0.mk A440
      clear A440
      by_cases c45 : t196 = t197
      ·rw [if_pos c45] at H
       have c45b0 : (t196 == t197) = true := beq_iff_eq.mpr c45
       have c45b1 : (t196 != t197) = false := bne_eq_false_iff_eq.mpr c45
       clear c45
       replace H := Option.bind_eq_some_iff.mp H
       obtain ⟨t198, A460, H⟩ := H
       replace H : ((fettleref07_Head_Least.f k t172 t173 t174 t175 t176).bind fun t199 => (fettlelaw07_HeaderPlaces.j0 k t178 (t198 != t199) t172 t173 t174 t175 t176 t179 t180 t181 t182 t183 t184 t185 t186)) = some r := H
       have A46 := Aside0.mk A460
       clear A460
       replace H := Option.bind_eq_some_iff.mp H
       obtain ⟨t199, A470, H⟩ := H
       replace H : (fettlelaw07_HeaderPlaces.j0 k t178 (t198 != t199) t172 t173 t174 t175 t176 t179 t180 t181 t182 t183 t184 t185 t186) = some r := H
       have A47 := Aside0.mk A470
       clear A470
       have H' := Aside0.mk H
       clear H
       try go_wp2
       have n0_ := Aside0.mk (blk_drew BK171.out)
       have n1_ := Aside0.mk (blk_drew BK177.out)
       have n2_ := Aside0.mk (blk_drew BK187.out)
       have n3_ := Aside0.mk (blk_drew BK188.out)
       have n4_ := Aside0.mk (blk_drew BK189.out)
       have n5_ := Aside0.mk (blk_drew BK190.out)
       have n6_ := Aside0.mk (below_drew1 HB.out)
       clear BK171
       clear BK177
       clear BK187
       clear BK188
       clear BK189
       clear BK190
       clear HB
       have BK171 := n0_
       have BK177 := n1_
       have BK187 := n2_
       have BK188 := n3_
       have BK189 := n4_
       have BK190 := n5_
       have HB := n6_
       clear n0_ n1_ n2_ n3_ n4_ n5_ n6_
       refine start_ (n := 36) (S := fun w' => w'.cell? ⟨gb171, 0, none⟩ = some (.int .i64 a0_0) ∧ w'.cell? ⟨gb171, 1, none⟩ = some (.int .i64 a0_1) ∧ w'.cell? ⟨gb171, 2, none⟩ = some (.int .i64 a0_2) ∧ w'.cell? ⟨gb171, 3, none⟩ = some (.int .i64 a0_3) ∧ w'.cell? ⟨gb171, 4, none⟩ = some (.bool a0_4) ∧ w'.cell? ⟨gb177, 0, none⟩ = some (.int .i64 t172) ∧ w'.cell? ⟨gb177, 1, none⟩ = some (.int .i64 t173) ∧ w'.cell? ⟨gb177, 2, none⟩ = some (.int .i64 t174) ∧ w'.cell? ⟨gb177, 3, none⟩ = some (.int .i64 t175) ∧ w'.cell? ⟨gb177, 4, none⟩ = some (.bool t176)) (ds := []) #[false, false, false, false, false, false, false, false, false, false, false, false, false, false, false, false, false, false, false, false, false, false, false, false, false, false, false, false, false, false, false, false, false, false, false, false] (by kernel_rfl) rfl rfl ⟨(blk_cell BK171.out 0).trans rfl, (blk_cell BK171.out 1).trans rfl, (blk_cell BK171.out 2).trans rfl, (blk_cell BK171.out 3).trans rfl, (blk_cell BK171.out 4).trans rfl, (blk_cell BK177.out 0).trans rfl, (blk_cell BK177.out 1).trans rfl, (blk_cell BK177.out 2).trans rfl, (blk_cell BK177.out 3).trans rfl, (blk_cell BK177.out 4).trans rfl⟩ (fun hHeld => ?_); refine with_tabW fettlelaw07_HeaderPlaces.tab4 fettlelaw07_HeaderPlaces.bits4 (fun HT_ HW_ => ?_)
       generalize w33.drew = w48 at BK171 BK177 BK187 BK188 BK189 BK190 HB hHeld ⊢
       refine one_ (i := 0) (N := some 21) #[true, false, false, false, false, false, false, false, false, false, false, false, false, false, false, false, false, false, false, false, false, false, false, false, false, false, false, false, false, false, false, false, false, false, false, false] rfl rfl (one_of HT_.out (by kernel_rfl)) (by decide) (fun K hK => ?_)
       refine goes_ Try.func49 (by kernel_rfl) rfl #[] (by rfl) rfl rfl (by (try simp only [List.map_toArray, List.map_cons, List.map_nil]); first | done | rfl | (simp only [List.length_drop, List.length_take]; rfl)) ?_
       with_reducible refine (fettlelaw07_laid.calls k  true _ A34.out).mono ?_
       rintro e w49 ⟨rfl, hb⟩
       refine ⟨_, rfl, ?_⟩
       have n0_ := Aside0.mk (blk_below (g := gb171) (o := .cells #[.int .i64 a0_0, .int .i64 a0_1, .int .i64 a0_2, .int .i64 a0_3, .bool a0_4] 69 (0, 0)) (by (with_reducible repeat (first | refine blk_drewN ?_ _ | refine blk_drew ?_ | refine blk_alloc ?_ _)); exact BK171.out) hb)
       have n1_ := Aside0.mk (blk_below (g := gb177) (o := .cells #[.int .i64 t172, .int .i64 t173, .int .i64 t174, .int .i64 t175, .bool t176] 70 (0, 0)) (by (with_reducible repeat (first | refine blk_drewN ?_ _ | refine blk_drew ?_ | refine blk_alloc ?_ _)); exact BK177.out) hb)
       have n2_ := Aside0.mk (blk_below (g := gb187) (o := .cells #[.int .i64 t179, .int .i64 t180] 74 (0, 0)) (by (with_reducible repeat (first | refine blk_drewN ?_ _ | refine blk_drew ?_ | refine blk_alloc ?_ _)); exact BK187.out) hb)
       have n3_ := Aside0.mk (blk_below (g := gb188) (o := .cells #[.int .i64 t181, .int .i64 t182] 74 (0, 0)) (by (with_reducible repeat (first | refine blk_drewN ?_ _ | refine blk_drew ?_ | refine blk_alloc ?_ _)); exact BK188.out) hb)
       have n4_ := Aside0.mk (blk_below (g := gb189) (o := .cells #[.int .i64 t183, .int .i64 t184] 74 (0, 0)) (by (with_reducible repeat (first | refine blk_drewN ?_ _ | refine blk_drew ?_ | refine blk_alloc ?_ _)); exact BK189.out) hb)
       have n5_ := Aside0.mk (blk_below (g := gb190) (o := .cells #[.int .i64 t185, .int .i64 t186] 74 (0, 0)) (by (with_reducible repeat (first | refine blk_drewN ?_ _ | refine blk_drew ?_ | refine blk_alloc ?_ _)); exact BK190.out) hb)
       have n6_ := Aside0.mk (below_step (by repeat (first | (with_reducible first | exact HB.out | apply below_alloc | apply pw_below_drewN | apply below_drew1 | refine below_set ?_ GE171.out | refine below_set ?_ GE177.out | refine below_set ?_ GE187.out | refine below_set ?_ GE188.out | refine below_set ?_ GE189.out | refine below_set ?_ GE190.out) | exact HB.out)) hb)
       clear BK171
       clear BK177
       clear BK187
       clear BK188
       clear BK189
       clear BK190
       clear HB
       have BK171 := n0_
       have BK177 := n1_
       have BK187 := n2_
       have BK188 := n3_
       have BK189 := n4_
       have BK190 := n5_
       have HB := n6_
       clear n0_ n1_ n2_ n3_ n4_ n5_ n6_
       (try clear hb)
       (try clear hb2)
       (try clear hk)
       (try clear hi)
       refine hK.out _ _ ⟨(blk_cell BK171.out 0).trans rfl, (blk_cell BK171.out 1).trans rfl, (blk_cell BK171.out 2).trans rfl, (blk_cell BK171.out 3).trans rfl, (blk_cell BK171.out 4).trans rfl, (blk_cell BK177.out 0).trans rfl, (blk_cell BK177.out 1).trans rfl, (blk_cell BK177.out 2).trans rfl, (blk_cell BK177.out 3).trans rfl, (blk_cell BK177.out 4).trans rfl⟩ (fun hHeld => ?_)
       clear hK K
       refine norm_ (a' := ?_) ?_ ?_
       rotate_left
       ·show Act.put _ (some 21) _ = _
        simp only [Act.put, List.setIfInBounds_toArray, List.set_cons_zero, List.set_cons_succ, i64_w, i32_w]
        rfl
       refine pure_ (i := 1) (N := some 22) (v := ?_) (a' := ?_) #[true, true, false, false, false, false, false, false, false, false, false, false, false, false, false, false, false, false, false, false, false, false, false, false, false, false, false, false, false, false, false, false, false, false, false, false] rfl rfl (any_of HT_.out (by kernel_rfl)) (fun _ _ _ h => h) (Or.inl ⟨by rfl, ?_⟩) ?_ ?_
       rotate_left
       ·intro w'
        go_simp
        with_reducible rfl
       rotate_left
       ·simp only [Act.put, List.setIfInBounds_toArray, List.set_cons_zero, List.set_cons_succ, i64_w, i32_w]
        rfl
       refine pure_ (i := 2) (N := some 23) (v := ?_) (a' := ?_) #[true, true, true, false, false, false, false, false, false, false, false, false, false, false, false, false, false, false, false, false, false, false, false, false, false, false, false, false, false, false, false, false, false, false, false, false] rfl rfl (any_of HT_.out (by kernel_rfl)) (fun _ _ _ h => h) (Or.inl ⟨by rfl, ?_⟩) ?_ ?_
       rotate_left
       ·intro w'
        go_simp
        with_reducible rfl
       rotate_left
       ·simp only [Act.put, List.setIfInBounds_toArray, List.set_cons_zero, List.set_cons_succ, i64_w, i32_w]
        rfl
       refine pure_ (i := 5) (N := some 26) (v := ?_) (a' := ?_) #[true, true, true, false, false, true, false, false, false, false, false, false, false, false, false, false, false, false, false, false, false, false, false, false, false, false, false, false, false, false, false, false, false, false, false, false] rfl rfl (any_of HT_.out (by kernel_rfl)) (fun _ _ _ h => h) (Or.inl ⟨by rfl, ?_⟩) ?_ ?_
       rotate_left
       ·intro w'
        go_simp
        with_reducible rfl
       rotate_left
       ·simp only [Act.put, List.setIfInBounds_toArray, List.set_cons_zero, List.set_cons_succ, i64_w, i32_w]
        rfl
       refine take_ (i := 3) (N := some 24) (v := ?_) (a' := ?_) #[true, true, true, true, false, true, false, false, false, false, false, false, false, false, false, false, false, false, false, false, false, false, false, false, false, false, false, false, false, false, false, false, false, false, false, false] rfl rfl (take_ofW HT_.out HW_.out (by kernel_rfl)) (fun _ _ _ h => h) (Or.inl ⟨by rfl, ?_⟩) hHeld ?_ ?_
       rotate_left
       ·rintro w' ⟨s0, s1, s2, s3, s4, s5, s6, s7, s8, s9⟩
        go_simp
        with_reducible rfl
       rotate_left
       ·simp only [Act.put, List.setIfInBounds_toArray, List.set_cons_zero, List.set_cons_succ, i64_w, i32_w]
        rfl
       refine one_ (i := 4) (N := some 25) #[true, true, true, true, true, true, false, false, false, false, false, false, false, false, false, false, false, false, false, false, false, false, false, false, false, false, false, false, false, false, false, false, false, false, false, false] rfl rfl (one_of HT_.out (by kernel_rfl)) (by decide) (fun K hK => ?_)
       refine goes_ Try.func50 (by kernel_rfl) rfl #[.agg #[.int .i64 a0_0, .int .i64 a0_1, .int .i64 a0_2, .int .i64 a0_3, .bool a0_4]] (by rfl) rfl rfl (by (try simp only [List.map_toArray, List.map_cons, List.map_nil]); first | done | rfl | (simp only [List.length_drop, List.length_take]; rfl)) ?_
       with_reducible refine (header_Header_Cluster.calls a0_0 a0_1 a0_2 a0_3 a0_4 t192 _ A36.out).mono ?_
       rintro e w50 ⟨rfl, hb⟩
       refine ⟨_, rfl, ?_⟩
       have n0_ := Aside0.mk (blk_below (g := gb171) (o := .cells #[.int .i64 a0_0, .int .i64 a0_1, .int .i64 a0_2, .int .i64 a0_3, .bool a0_4] 69 (0, 0)) (by (with_reducible repeat (first | refine blk_drewN ?_ _ | refine blk_drew ?_ | refine blk_alloc ?_ _)); exact BK171.out) hb)
       have n1_ := Aside0.mk (blk_below (g := gb177) (o := .cells #[.int .i64 t172, .int .i64 t173, .int .i64 t174, .int .i64 t175, .bool t176] 70 (0, 0)) (by (with_reducible repeat (first | refine blk_drewN ?_ _ | refine blk_drew ?_ | refine blk_alloc ?_ _)); exact BK177.out) hb)
       have n2_ := Aside0.mk (blk_below (g := gb187) (o := .cells #[.int .i64 t179, .int .i64 t180] 74 (0, 0)) (by (with_reducible repeat (first | refine blk_drewN ?_ _ | refine blk_drew ?_ | refine blk_alloc ?_ _)); exact BK187.out) hb)
       have n3_ := Aside0.mk (blk_below (g := gb188) (o := .cells #[.int .i64 t181, .int .i64 t182] 74 (0, 0)) (by (with_reducible repeat (first | refine blk_drewN ?_ _ | refine blk_drew ?_ | refine blk_alloc ?_ _)); exact BK188.out) hb)
       have n4_ := Aside0.mk (blk_below (g := gb189) (o := .cells #[.int .i64 t183, .int .i64 t184] 74 (0, 0)) (by (with_reducible repeat (first | refine blk_drewN ?_ _ | refine blk_drew ?_ | refine blk_alloc ?_ _)); exact BK189.out) hb)
       have n5_ := Aside0.mk (blk_below (g := gb190) (o := .cells #[.int .i64 t185, .int .i64 t186] 74 (0, 0)) (by (with_reducible repeat (first | refine blk_drewN ?_ _ | refine blk_drew ?_ | refine blk_alloc ?_ _)); exact BK190.out) hb)
       have n6_ := Aside0.mk (below_step (by repeat (first | (with_reducible first | exact HB.out | apply below_alloc | apply pw_below_drewN | apply below_drew1 | refine below_set ?_ GE171.out | refine below_set ?_ GE177.out | refine below_set ?_ GE187.out | refine below_set ?_ GE188.out | refine below_set ?_ GE189.out | refine below_set ?_ GE190.out) | exact HB.out)) hb)
       clear BK171
       clear BK177
       clear BK187
       clear BK188
       clear BK189
       clear BK190
       clear HB
       have BK171 := n0_
       have BK177 := n1_
       have BK187 := n2_
       have BK188 := n3_
       have BK189 := n4_
       have BK190 := n5_
       have HB := n6_
       clear n0_ n1_ n2_ n3_ n4_ n5_ n6_
       (try clear hb)
       (try clear hb2)
       (try clear hk)
       (try clear hi)
       refine hK.out _ _ ⟨(blk_cell BK171.out 0).trans rfl, (blk_cell BK171.out 1).trans rfl, (blk_cell BK171.out 2).trans rfl, (blk_cell BK171.out 3).trans rfl, (blk_cell BK171.out 4).trans rfl, (blk_cell BK177.out 0).trans rfl, (blk_cell BK177.out 1).trans rfl, (blk_cell BK177.out 2).trans rfl, (blk_cell BK177.out 3).trans rfl, (blk_cell BK177.out 4).trans rfl⟩ (fun hHeld => ?_)
       clear hK K
       refine norm_ (a' := ?_) ?_ ?_
       rotate_left
       ·show Act.put _ (some 25) _ = _
        simp only [Act.put, List.setIfInBounds_toArray, List.set_cons_zero, List.set_cons_succ, i64_w, i32_w]
        rfl
       refine pure_ (i := 6) (N := some 27) (v := ?_) (a' := ?_) #[true, true, true, true, true, true, true, false, false, false, false, false, false, false, false, false, false, false, false, false, false, false, false, false, false, false, false, false, false, false, false, false, false, false, false, false] rfl rfl (any_of HT_.out (by kernel_rfl)) (fun _ _ _ h => h) (Or.inl ⟨by rfl, ?_⟩) ?_ ?_
       rotate_left
       ·intro w'
        go_simp
        with_reducible rfl
       rotate_left
       ·simp only [Act.put, List.setIfInBounds_toArray, List.set_cons_zero, List.set_cons_succ, i64_w, i32_w]
        rfl
       refine pure_ (i := 7) (N := some 28) (v := ?_) (a' := ?_) #[true, true, true, true, true, true, true, true, false, false, false, false, false, false, false, false, false, false, false, false, false, false, false, false, false, false, false, false, false, false, false, false, false, false, false, false] rfl rfl (any_of HT_.out (by kernel_rfl)) (fun _ _ _ h => h) (Or.inl ⟨by rfl, ?_⟩) ?_ ?_
       rotate_left
       ·intro w'
        go_simp
        with_reducible rfl
       rotate_left
       ·simp only [Act.put, List.setIfInBounds_toArray, List.set_cons_zero, List.set_cons_succ, i64_w, i32_w]
        rfl
       refine pure_ (i := 8) (N := some 29) (v := ?_) (a' := ?_) #[true, true, true, true, true, true, true, true, true, false, false, false, false, false, false, false, false, false, false, false, false, false, false, false, false, false, false, false, false, false, false, false, false, false, false, false] rfl rfl (any_of HT_.out (by kernel_rfl)) (fun _ _ _ h => h) (Or.inl ⟨by rfl, ?_⟩) ?_ ?_
       rotate_left
       ·intro w'
        go_simp
        with_reducible rfl
       rotate_left
       ·simp only [Act.put, List.setIfInBounds_toArray, List.set_cons_zero, List.set_cons_succ, i64_w, i32_w]
        rfl
       refine pure_ (i := 11) (N := some 32) (v := ?_) (a' := ?_) #[true, true, true, true, true, true, true, true, true, false, false, true, false, false, false, false, false, false, false, false, false, false, false, false, false, false, false, false, false, false, false, false, false, false, false, false] rfl rfl (any_of HT_.out (by kernel_rfl)) (fun _ _ _ h => h) (Or.inl ⟨by rfl, ?_⟩) ?_ ?_
       rotate_left
       ·intro w'
        go_simp
        with_reducible rfl
       rotate_left
       ·simp only [Act.put, List.setIfInBounds_toArray, List.set_cons_zero, List.set_cons_succ, i64_w, i32_w]
        rfl
       refine pure_ (i := 12) (N := some 33) (v := ?_) (a' := ?_) #[true, true, true, true, true, true, true, true, true, false, false, true, true, false, false, false, false, false, false, false, false, false, false, false, false, false, false, false, false, false, false, false, false, false, false, false] rfl rfl (any_of HT_.out (by kernel_rfl)) (fun _ _ _ h => h) (Or.inl ⟨by rfl, ?_⟩) ?_ ?_
       rotate_left
       ·intro w'
        go_simp
        with_reducible rfl
       rotate_left
       ·simp only [Act.put, List.setIfInBounds_toArray, List.set_cons_zero, List.set_cons_succ, i64_w, i32_w]
        rfl
       refine take_ (i := 9) (N := some 30) (v := ?_) (a' := ?_) #[true, true, true, true, true, true, true, true, true, true, false, true, true, false, false, false, false, false, false, false, false, false, false, false, false, false, false, false, false, false, false, false, false, false, false, false] rfl rfl (take_ofW HT_.out HW_.out (by kernel_rfl)) (fun _ _ _ h => h) (Or.inl ⟨by rfl, ?_⟩) hHeld ?_ ?_
       rotate_left
       ·rintro w' ⟨s0, s1, s2, s3, s4, s5, s6, s7, s8, s9⟩
        go_simp
        with_reducible rfl
       rotate_left
       ·simp only [Act.put, List.setIfInBounds_toArray, List.set_cons_zero, List.set_cons_succ, i64_w, i32_w]
        rfl
       refine one_ (i := 10) (N := some 31) #[true, true, true, true, true, true, true, true, true, true, true, true, true, false, false, false, false, false, false, false, false, false, false, false, false, false, false, false, false, false, false, false, false, false, false, false] rfl rfl (one_of HT_.out (by kernel_rfl)) (by decide) (fun K hK => ?_)
       refine goes_ Try.func51 (by kernel_rfl) rfl #[.agg #[.int .i64 a0_0, .int .i64 a0_1, .int .i64 a0_2, .int .i64 a0_3, .bool a0_4]] (by rfl) rfl rfl (by (try simp only [List.map_toArray, List.map_cons, List.map_nil]); first | done | rfl | (simp only [List.length_drop, List.length_take]; rfl)) ?_
       with_reducible refine (header_Header_Entries.calls a0_0 a0_1 a0_2 a0_3 a0_4 t193 _ A38.out).mono ?_
       rintro e w51 ⟨rfl, hb⟩
       refine ⟨_, rfl, ?_⟩
       have n0_ := Aside0.mk (blk_below (g := gb171) (o := .cells #[.int .i64 a0_0, .int .i64 a0_1, .int .i64 a0_2, .int .i64 a0_3, .bool a0_4] 69 (0, 0)) (by (with_reducible repeat (first | refine blk_drewN ?_ _ | refine blk_drew ?_ | refine blk_alloc ?_ _)); exact BK171.out) hb)
       have n1_ := Aside0.mk (blk_below (g := gb177) (o := .cells #[.int .i64 t172, .int .i64 t173, .int .i64 t174, .int .i64 t175, .bool t176] 70 (0, 0)) (by (with_reducible repeat (first | refine blk_drewN ?_ _ | refine blk_drew ?_ | refine blk_alloc ?_ _)); exact BK177.out) hb)
       have n2_ := Aside0.mk (blk_below (g := gb187) (o := .cells #[.int .i64 t179, .int .i64 t180] 74 (0, 0)) (by (with_reducible repeat (first | refine blk_drewN ?_ _ | refine blk_drew ?_ | refine blk_alloc ?_ _)); exact BK187.out) hb)
       have n3_ := Aside0.mk (blk_below (g := gb188) (o := .cells #[.int .i64 t181, .int .i64 t182] 74 (0, 0)) (by (with_reducible repeat (first | refine blk_drewN ?_ _ | refine blk_drew ?_ | refine blk_alloc ?_ _)); exact BK188.out) hb)
       have n4_ := Aside0.mk (blk_below (g := gb189) (o := .cells #[.int .i64 t183, .int .i64 t184] 74 (0, 0)) (by (with_reducible repeat (first | refine blk_drewN ?_ _ | refine blk_drew ?_ | refine blk_alloc ?_ _)); exact BK189.out) hb)
       have n5_ := Aside0.mk (blk_below (g := gb190) (o := .cells #[.int .i64 t185, .int .i64 t186] 74 (0, 0)) (by (with_reducible repeat (first | refine blk_drewN ?_ _ | refine blk_drew ?_ | refine blk_alloc ?_ _)); exact BK190.out) hb)
       have n6_ := Aside0.mk (below_step (by repeat (first | (with_reducible first | exact HB.out | apply below_alloc | apply pw_below_drewN | apply below_drew1 | refine below_set ?_ GE171.out | refine below_set ?_ GE177.out | refine below_set ?_ GE187.out | refine below_set ?_ GE188.out | refine below_set ?_ GE189.out | refine below_set ?_ GE190.out) | exact HB.out)) hb)
       clear BK171
       clear BK177
       clear BK187
       clear BK188
       clear BK189
       clear BK190
       clear HB
       have BK171 := n0_
       have BK177 := n1_
       have BK187 := n2_
       have BK188 := n3_
       have BK189 := n4_
       have BK190 := n5_
       have HB := n6_
       clear n0_ n1_ n2_ n3_ n4_ n5_ n6_
       (try clear hb)
       (try clear hb2)
       (try clear hk)
       (try clear hi)
       refine hK.out _ _ ⟨(blk_cell BK171.out 0).trans rfl, (blk_cell BK171.out 1).trans rfl, (blk_cell BK171.out 2).trans rfl, (blk_cell BK171.out 3).trans rfl, (blk_cell BK171.out 4).trans rfl, (blk_cell BK177.out 0).trans rfl, (blk_cell BK177.out 1).trans rfl, (blk_cell BK177.out 2).trans rfl, (blk_cell BK177.out 3).trans rfl, (blk_cell BK177.out 4).trans rfl⟩ (fun hHeld => ?_)
       clear hK K
       refine norm_ (a' := ?_) ?_ ?_
       rotate_left
       ·show Act.put _ (some 31) _ = _
        simp only [Act.put, List.setIfInBounds_toArray, List.set_cons_zero, List.set_cons_succ, i64_w, i32_w]
        rfl
       refine pure_ (i := 13) (N := some 34) (v := ?_) (a' := ?_) #[true, true, true, true, true, true, true, true, true, true, true, true, true, true, false, false, false, false, false, false, false, false, false, false, false, false, false, false, false, false, false, false, false, false, false, false] rfl rfl (any_of HT_.out (by kernel_rfl)) (fun _ _ _ h => h) (Or.inl ⟨by rfl, ?_⟩) ?_ ?_
       rotate_left
       ·intro w'
        go_simp
        with_reducible rfl
       rotate_left
       ·simp only [Act.put, List.setIfInBounds_toArray, List.set_cons_zero, List.set_cons_succ, i64_w, i32_w]
        rfl
       refine pure_ (i := 14) (N := some 35) (v := ?_) (a' := ?_) #[true, true, true, true, true, true, true, true, true, true, true, true, true, true, true, false, false, false, false, false, false, false, false, false, false, false, false, false, false, false, false, false, false, false, false, false] rfl rfl (any_of HT_.out (by kernel_rfl)) (fun _ _ _ h => h) (Or.inl ⟨by rfl, ?_⟩) ?_ ?_
       rotate_left
       ·intro w'
        go_simp
        with_reducible rfl
       rotate_left
       ·simp only [Act.put, List.setIfInBounds_toArray, List.set_cons_zero, List.set_cons_succ, i64_w, i32_w]
        rfl
       refine pure_ (i := 15) (N := some 36) (v := ?_) (a' := ?_) #[true, true, true, true, true, true, true, true, true, true, true, true, true, true, true, true, false, false, false, false, false, false, false, false, false, false, false, false, false, false, false, false, false, false, false, false] rfl rfl (any_of HT_.out (by kernel_rfl)) (fun _ _ _ h => h) (Or.inl ⟨by rfl, ?_⟩) ?_ ?_
       rotate_left
       ·intro w'
        go_simp
        with_reducible rfl
       rotate_left
       ·simp only [Act.put, List.setIfInBounds_toArray, List.set_cons_zero, List.set_cons_succ, i64_w, i32_w]
        rfl
       refine take_ (i := 16) (N := some 37) (v := ?_) (a' := ?_) #[true, true, true, true, true, true, true, true, true, true, true, true, true, true, true, true, true, false, false, false, false, false, false, false, false, false, false, false, false, false, false, false, false, false, false, false] rfl rfl (take_ofW HT_.out HW_.out (by kernel_rfl)) (fun _ _ _ h => h) (Or.inl ⟨by rfl, ?_⟩) hHeld ?_ ?_
       rotate_left
       ·rintro w' ⟨s0, s1, s2, s3, s4, s5, s6, s7, s8, s9⟩
        go_simp
        with_reducible rfl
       rotate_left
       ·simp only [Act.put, List.setIfInBounds_toArray, List.set_cons_zero, List.set_cons_succ, i64_w, i32_w]
        rfl
       refine take_ (i := 18) (N := some 39) (v := ?_) (a' := ?_) #[true, true, true, true, true, true, true, true, true, true, true, true, true, true, true, true, true, false, true, false, false, false, false, false, false, false, false, false, false, false, false, false, false, false, false, false] rfl rfl (take_ofW HT_.out HW_.out (by kernel_rfl)) (fun _ _ _ h => h) (Or.inl ⟨by rfl, ?_⟩) hHeld ?_ ?_
       rotate_left
       ·rintro w' ⟨s0, s1, s2, s3, s4, s5, s6, s7, s8, s9⟩
        go_simp
        with_reducible rfl
       rotate_left
       ·simp only [Act.put, List.setIfInBounds_toArray, List.set_cons_zero, List.set_cons_succ, i64_w, i32_w]
        rfl
       refine one_ (i := 17) (N := some 38) #[true, true, true, true, true, true, true, true, true, true, true, true, true, true, true, true, true, true, true, false, false, false, false, false, false, false, false, false, false, false, false, false, false, false, false, false] rfl rfl (one_of HT_.out (by kernel_rfl)) (by decide) (fun K hK => ?_)
       refine goes_ Try.func52 (by kernel_rfl) rfl #[.agg #[.int .i64 a0_0, .int .i64 a0_1, .int .i64 a0_2, .int .i64 a0_3, .bool a0_4]] (by rfl) rfl rfl (by (try simp only [List.map_toArray, List.map_cons, List.map_nil]); first | done | rfl | (simp only [List.length_drop, List.length_take]; rfl)) ?_
       with_reducible refine (header_Header_Guest.calls a0_0 a0_1 a0_2 a0_3 a0_4 t194 _ A40.out).mono ?_
       rintro e w52 ⟨rfl, hb⟩
       refine ⟨_, rfl, ?_⟩
       have n0_ := Aside0.mk (blk_below (g := gb171) (o := .cells #[.int .i64 a0_0, .int .i64 a0_1, .int .i64 a0_2, .int .i64 a0_3, .bool a0_4] 69 (0, 0)) (by (with_reducible repeat (first | refine blk_drewN ?_ _ | refine blk_drew ?_ | refine blk_alloc ?_ _)); exact BK171.out) hb)
       have n1_ := Aside0.mk (blk_below (g := gb177) (o := .cells #[.int .i64 t172, .int .i64 t173, .int .i64 t174, .int .i64 t175, .bool t176] 70 (0, 0)) (by (with_reducible repeat (first | refine blk_drewN ?_ _ | refine blk_drew ?_ | refine blk_alloc ?_ _)); exact BK177.out) hb)
       have n2_ := Aside0.mk (blk_below (g := gb187) (o := .cells #[.int .i64 t179, .int .i64 t180] 74 (0, 0)) (by (with_reducible repeat (first | refine blk_drewN ?_ _ | refine blk_drew ?_ | refine blk_alloc ?_ _)); exact BK187.out) hb)
       have n3_ := Aside0.mk (blk_below (g := gb188) (o := .cells #[.int .i64 t181, .int .i64 t182] 74 (0, 0)) (by (with_reducible repeat (first | refine blk_drewN ?_ _ | refine blk_drew ?_ | refine blk_alloc ?_ _)); exact BK188.out) hb)
       have n4_ := Aside0.mk (blk_below (g := gb189) (o := .cells #[.int .i64 t183, .int .i64 t184] 74 (0, 0)) (by (with_reducible repeat (first | refine blk_drewN ?_ _ | refine blk_drew ?_ | refine blk_alloc ?_ _)); exact BK189.out) hb)
       have n5_ := Aside0.mk (blk_below (g := gb190) (o := .cells #[.int .i64 t185, .int .i64 t186] 74 (0, 0)) (by (with_reducible repeat (first | refine blk_drewN ?_ _ | refine blk_drew ?_ | refine blk_alloc ?_ _)); exact BK190.out) hb)
       have n6_ := Aside0.mk (below_step (by repeat (first | (with_reducible first | exact HB.out | apply below_alloc | apply pw_below_drewN | apply below_drew1 | refine below_set ?_ GE171.out | refine below_set ?_ GE177.out | refine below_set ?_ GE187.out | refine below_set ?_ GE188.out | refine below_set ?_ GE189.out | refine below_set ?_ GE190.out) | exact HB.out)) hb)
       clear BK171
       clear BK177
       clear BK187
       clear BK188
       clear BK189
       clear BK190
       clear HB
       have BK171 := n0_
       have BK177 := n1_
       have BK187 := n2_
       have BK188 := n3_
       have BK189 := n4_
       have BK190 := n5_
       have HB := n6_
       clear n0_ n1_ n2_ n3_ n4_ n5_ n6_
       (try clear hb)
       (try clear hb2)
       (try clear hk)
       (try clear hi)
       refine hK.out _ _ ⟨(blk_cell BK171.out 0).trans rfl, (blk_cell BK171.out 1).trans rfl, (blk_cell BK171.out 2).trans rfl, (blk_cell BK171.out 3).trans rfl, (blk_cell BK171.out 4).trans rfl, (blk_cell BK177.out 0).trans rfl, (blk_cell BK177.out 1).trans rfl, (blk_cell BK177.out 2).trans rfl, (blk_cell BK177.out 3).trans rfl, (blk_cell BK177.out 4).trans rfl⟩ (fun hHeld => ?_)
       clear hK K
       refine norm_ (a' := ?_) ?_ ?_
       rotate_left
       ·show Act.put _ (some 38) _ = _
        simp only [Act.put, List.setIfInBounds_toArray, List.set_cons_zero, List.set_cons_succ, i64_w, i32_w]
        rfl
       refine one_ (i := 19) (N := some 40) #[true, true, true, true, true, true, true, true, true, true, true, true, true, true, true, true, true, true, true, true, false, false, false, false, false, false, false, false, false, false, false, false, false, false, false, false] rfl rfl (one_of HT_.out (by kernel_rfl)) (by decide) (fun K hK => ?_)
       refine goes_ Try.func53 (by kernel_rfl) rfl #[.agg #[.int .i64 t172, .int .i64 t173, .int .i64 t174, .int .i64 t175, .bool t176]] (by rfl) rfl rfl (by (try simp only [List.map_toArray, List.map_cons, List.map_nil]); first | done | rfl | (simp only [List.length_drop, List.length_take]; rfl)) ?_
       with_reducible refine (fettleref07_Head_Guest.calls k t172 t173 t174 t175 t176 t195 _ A41.out).mono ?_
       rintro e w53 ⟨rfl, hb⟩
       refine ⟨_, rfl, ?_⟩
       have n0_ := Aside0.mk (blk_below (g := gb171) (o := .cells #[.int .i64 a0_0, .int .i64 a0_1, .int .i64 a0_2, .int .i64 a0_3, .bool a0_4] 69 (0, 0)) (by (with_reducible repeat (first | refine blk_drewN ?_ _ | refine blk_drew ?_ | refine blk_alloc ?_ _)); exact BK171.out) hb)
       have n1_ := Aside0.mk (blk_below (g := gb177) (o := .cells #[.int .i64 t172, .int .i64 t173, .int .i64 t174, .int .i64 t175, .bool t176] 70 (0, 0)) (by (with_reducible repeat (first | refine blk_drewN ?_ _ | refine blk_drew ?_ | refine blk_alloc ?_ _)); exact BK177.out) hb)
       have n2_ := Aside0.mk (blk_below (g := gb187) (o := .cells #[.int .i64 t179, .int .i64 t180] 74 (0, 0)) (by (with_reducible repeat (first | refine blk_drewN ?_ _ | refine blk_drew ?_ | refine blk_alloc ?_ _)); exact BK187.out) hb)
       have n3_ := Aside0.mk (blk_below (g := gb188) (o := .cells #[.int .i64 t181, .int .i64 t182] 74 (0, 0)) (by (with_reducible repeat (first | refine blk_drewN ?_ _ | refine blk_drew ?_ | refine blk_alloc ?_ _)); exact BK188.out) hb)
       have n4_ := Aside0.mk (blk_below (g := gb189) (o := .cells #[.int .i64 t183, .int .i64 t184] 74 (0, 0)) (by (with_reducible repeat (first | refine blk_drewN ?_ _ | refine blk_drew ?_ | refine blk_alloc ?_ _)); exact BK189.out) hb)
       have n5_ := Aside0.mk (blk_below (g := gb190) (o := .cells #[.int .i64 t185, .int .i64 t186] 74 (0, 0)) (by (with_reducible repeat (first | refine blk_drewN ?_ _ | refine blk_drew ?_ | refine blk_alloc ?_ _)); exact BK190.out) hb)
       have n6_ := Aside0.mk (below_step (by repeat (first | (with_reducible first | exact HB.out | apply below_alloc | apply pw_below_drewN | apply below_drew1 | refine below_set ?_ GE171.out | refine below_set ?_ GE177.out | refine below_set ?_ GE187.out | refine below_set ?_ GE188.out | refine below_set ?_ GE189.out | refine below_set ?_ GE190.out) | exact HB.out)) hb)
       clear BK171
       clear BK177
       clear BK187
       clear BK188
       clear BK189
       clear BK190
       clear HB
       have BK171 := n0_
       have BK177 := n1_
       have BK187 := n2_
       have BK188 := n3_
       have BK189 := n4_
       have BK190 := n5_
       have HB := n6_
       clear n0_ n1_ n2_ n3_ n4_ n5_ n6_
       (try clear hb)
       (try clear hb2)
       (try clear hk)
       (try clear hi)
       refine hK.out _ _ ⟨(blk_cell BK171.out 0).trans rfl, (blk_cell BK171.out 1).trans rfl, (blk_cell BK171.out 2).trans rfl, (blk_cell BK171.out 3).trans rfl, (blk_cell BK171.out 4).trans rfl, (blk_cell BK177.out 0).trans rfl, (blk_cell BK177.out 1).trans rfl, (blk_cell BK177.out 2).trans rfl, (blk_cell BK177.out 3).trans rfl, (blk_cell BK177.out 4).trans rfl⟩ (fun hHeld => ?_)
       clear hK K
       refine norm_ (a' := ?_) ?_ ?_
       rotate_left
       ·show Act.put _ (some 40) _ = _
        simp only [Act.put, List.setIfInBounds_toArray, List.set_cons_zero, List.set_cons_succ, i64_w, i32_w]
        rfl
       refine pure_ (i := 20) (N := some 41) (v := ?_) (a' := ?_) #[true, true, true, true, true, true, true, true, true, true, true, true, true, true, true, true, true, true, true, true, true, false, false, false, false, false, false, false, false, false, false, false, false, false, false, false] rfl rfl (any_of HT_.out (by kernel_rfl)) (fun _ _ _ h => h) (Or.inl ⟨by rfl, ?_⟩) ?_ ?_
       rotate_left
       ·intro w'
        go_simp
        with_reducible rfl
       rotate_left
       ·simp only [Act.put, List.setIfInBounds_toArray, List.set_cons_zero, List.set_cons_succ, i64_w, i32_w]
        rfl
       refine pure_ (i := 21) (N := some 42) (v := ?_) (a' := ?_) #[true, true, true, true, true, true, true, true, true, true, true, true, true, true, true, true, true, true, true, true, true, true, false, false, false, false, false, false, false, false, false, false, false, false, false, false] rfl rfl (any_of HT_.out (by kernel_rfl)) (fun _ _ _ h => h) (Or.inl ⟨by rfl, ?_⟩) ?_ ?_
       rotate_left
       ·intro w'
        go_simp
        with_reducible rfl
       rotate_left
       ·simp only [Act.put, List.setIfInBounds_toArray, List.set_cons_zero, List.set_cons_succ, i64_w, i32_w]
        rfl
       refine pure_ (i := 22) (N := some 43) (v := ?_) (a' := ?_) #[true, true, true, true, true, true, true, true, true, true, true, true, true, true, true, true, true, true, true, true, true, true, true, false, false, false, false, false, false, false, false, false, false, false, false, false] rfl rfl (any_of HT_.out (by kernel_rfl)) (fun _ _ _ h => h) (Or.inl ⟨by rfl, ?_⟩) ?_ ?_
       rotate_left
       ·intro w'
        go_simp
        with_reducible rfl
       rotate_left
       ·simp only [Act.put, List.setIfInBounds_toArray, List.set_cons_zero, List.set_cons_succ, i64_w, i32_w]
        rfl
       refine take_ (i := 23) (N := some 44) (v := ?_) (a' := ?_) #[true, true, true, true, true, true, true, true, true, true, true, true, true, true, true, true, true, true, true, true, true, true, true, true, false, false, false, false, false, false, false, false, false, false, false, false] rfl rfl (take_ofW HT_.out HW_.out (by kernel_rfl)) (fun _ _ _ h => h) (Or.inl ⟨by rfl, ?_⟩) hHeld ?_ ?_
       rotate_left
       ·rintro w' ⟨s0, s1, s2, s3, s4, s5, s6, s7, s8, s9⟩
        go_simp
        with_reducible rfl
       rotate_left
       ·simp only [Act.put, List.setIfInBounds_toArray, List.set_cons_zero, List.set_cons_succ, i64_w, i32_w]
        rfl
       refine take_ (i := 25) (N := some 46) (v := ?_) (a' := ?_) #[true, true, true, true, true, true, true, true, true, true, true, true, true, true, true, true, true, true, true, true, true, true, true, true, false, true, false, false, false, false, false, false, false, false, false, false] rfl rfl (take_ofW HT_.out HW_.out (by kernel_rfl)) (fun _ _ _ h => h) (Or.inl ⟨by rfl, ?_⟩) hHeld ?_ ?_
       rotate_left
       ·rintro w' ⟨s0, s1, s2, s3, s4, s5, s6, s7, s8, s9⟩
        go_simp
        with_reducible rfl
       rotate_left
       ·simp only [Act.put, List.setIfInBounds_toArray, List.set_cons_zero, List.set_cons_succ, i64_w, i32_w]
        rfl
       refine one_ (i := 24) (N := some 45) #[true, true, true, true, true, true, true, true, true, true, true, true, true, true, true, true, true, true, true, true, true, true, true, true, true, true, false, false, false, false, false, false, false, false, false, false] rfl rfl (one_of HT_.out (by kernel_rfl)) (by decide) (fun K hK => ?_)
       refine goes_ Try.func54 (by kernel_rfl) rfl #[.agg #[.int .i64 a0_0, .int .i64 a0_1, .int .i64 a0_2, .int .i64 a0_3, .bool a0_4]] (by rfl) rfl rfl (by (try simp only [List.map_toArray, List.map_cons, List.map_nil]); first | done | rfl | (simp only [List.length_drop, List.length_take]; rfl)) ?_
       with_reducible refine (header_Header_First.calls a0_0 a0_1 a0_2 a0_3 a0_4 t196 _ A43.out).mono ?_
       rintro e w54 ⟨rfl, hb⟩
       refine ⟨_, rfl, ?_⟩
       have n0_ := Aside0.mk (blk_below (g := gb171) (o := .cells #[.int .i64 a0_0, .int .i64 a0_1, .int .i64 a0_2, .int .i64 a0_3, .bool a0_4] 69 (0, 0)) (by (with_reducible repeat (first | refine blk_drewN ?_ _ | refine blk_drew ?_ | refine blk_alloc ?_ _)); exact BK171.out) hb)
       have n1_ := Aside0.mk (blk_below (g := gb177) (o := .cells #[.int .i64 t172, .int .i64 t173, .int .i64 t174, .int .i64 t175, .bool t176] 70 (0, 0)) (by (with_reducible repeat (first | refine blk_drewN ?_ _ | refine blk_drew ?_ | refine blk_alloc ?_ _)); exact BK177.out) hb)
       have n2_ := Aside0.mk (blk_below (g := gb187) (o := .cells #[.int .i64 t179, .int .i64 t180] 74 (0, 0)) (by (with_reducible repeat (first | refine blk_drewN ?_ _ | refine blk_drew ?_ | refine blk_alloc ?_ _)); exact BK187.out) hb)
       have n3_ := Aside0.mk (blk_below (g := gb188) (o := .cells #[.int .i64 t181, .int .i64 t182] 74 (0, 0)) (by (with_reducible repeat (first | refine blk_drewN ?_ _ | refine blk_drew ?_ | refine blk_alloc ?_ _)); exact BK188.out) hb)
       have n4_ := Aside0.mk (blk_below (g := gb189) (o := .cells #[.int .i64 t183, .int .i64 t184] 74 (0, 0)) (by (with_reducible repeat (first | refine blk_drewN ?_ _ | refine blk_drew ?_ | refine blk_alloc ?_ _)); exact BK189.out) hb)
       have n5_ := Aside0.mk (blk_below (g := gb190) (o := .cells #[.int .i64 t185, .int .i64 t186] 74 (0, 0)) (by (with_reducible repeat (first | refine blk_drewN ?_ _ | refine blk_drew ?_ | refine blk_alloc ?_ _)); exact BK190.out) hb)
       have n6_ := Aside0.mk (below_step (by repeat (first | (with_reducible first | exact HB.out | apply below_alloc | apply pw_below_drewN | apply below_drew1 | refine below_set ?_ GE171.out | refine below_set ?_ GE177.out | refine below_set ?_ GE187.out | refine below_set ?_ GE188.out | refine below_set ?_ GE189.out | refine below_set ?_ GE190.out) | exact HB.out)) hb)
       clear BK171
       clear BK177
       clear BK187
       clear BK188
       clear BK189
       clear BK190
       clear HB
       have BK171 := n0_
       have BK177 := n1_
       have BK187 := n2_
       have BK188 := n3_
       have BK189 := n4_
       have BK190 := n5_
       have HB := n6_
       clear n0_ n1_ n2_ n3_ n4_ n5_ n6_
       (try clear hb)
       (try clear hb2)
       (try clear hk)
       (try clear hi)
       refine hK.out _ _ ⟨(blk_cell BK171.out 0).trans rfl, (blk_cell BK171.out 1).trans rfl, (blk_cell BK171.out 2).trans rfl, (blk_cell BK171.out 3).trans rfl, (blk_cell BK171.out 4).trans rfl, (blk_cell BK177.out 0).trans rfl, (blk_cell BK177.out 1).trans rfl, (blk_cell BK177.out 2).trans rfl, (blk_cell BK177.out 3).trans rfl, (blk_cell BK177.out 4).trans rfl⟩ (fun hHeld => ?_)
       clear hK K
       refine norm_ (a' := ?_) ?_ ?_
       rotate_left
       ·show Act.put _ (some 45) _ = _
        simp only [Act.put, List.setIfInBounds_toArray, List.set_cons_zero, List.set_cons_succ, i64_w, i32_w]
        rfl
       refine one_ (i := 26) (N := some 47) #[true, true, true, true, true, true, true, true, true, true, true, true, true, true, true, true, true, true, true, true, true, true, true, true, true, true, true, false, false, false, false, false, false, false, false, false] rfl rfl (one_of HT_.out (by kernel_rfl)) (by decide) (fun K hK => ?_)
       refine goes_ Try.func55 (by kernel_rfl) rfl #[.agg #[.int .i64 t172, .int .i64 t173, .int .i64 t174, .int .i64 t175, .bool t176], .int .i64 5] (by rfl) rfl rfl (by (try simp only [List.map_toArray, List.map_cons, List.map_nil]); first | done | rfl | (simp only [List.length_drop, List.length_take]; rfl)) ?_
       with_reducible refine (fettleref07_Head_At.calls k t172 t173 t174 t175 t176 5 t197 _ A44.out).mono ?_
       rintro e w55 ⟨rfl, hb⟩
       refine ⟨_, rfl, ?_⟩
       have n0_ := Aside0.mk (blk_below (g := gb171) (o := .cells #[.int .i64 a0_0, .int .i64 a0_1, .int .i64 a0_2, .int .i64 a0_3, .bool a0_4] 69 (0, 0)) (by (with_reducible repeat (first | refine blk_drewN ?_ _ | refine blk_drew ?_ | refine blk_alloc ?_ _)); exact BK171.out) hb)
       have n1_ := Aside0.mk (blk_below (g := gb177) (o := .cells #[.int .i64 t172, .int .i64 t173, .int .i64 t174, .int .i64 t175, .bool t176] 70 (0, 0)) (by (with_reducible repeat (first | refine blk_drewN ?_ _ | refine blk_drew ?_ | refine blk_alloc ?_ _)); exact BK177.out) hb)
       have n2_ := Aside0.mk (blk_below (g := gb187) (o := .cells #[.int .i64 t179, .int .i64 t180] 74 (0, 0)) (by (with_reducible repeat (first | refine blk_drewN ?_ _ | refine blk_drew ?_ | refine blk_alloc ?_ _)); exact BK187.out) hb)
       have n3_ := Aside0.mk (blk_below (g := gb188) (o := .cells #[.int .i64 t181, .int .i64 t182] 74 (0, 0)) (by (with_reducible repeat (first | refine blk_drewN ?_ _ | refine blk_drew ?_ | refine blk_alloc ?_ _)); exact BK188.out) hb)
       have n4_ := Aside0.mk (blk_below (g := gb189) (o := .cells #[.int .i64 t183, .int .i64 t184] 74 (0, 0)) (by (with_reducible repeat (first | refine blk_drewN ?_ _ | refine blk_drew ?_ | refine blk_alloc ?_ _)); exact BK189.out) hb)
       have n5_ := Aside0.mk (blk_below (g := gb190) (o := .cells #[.int .i64 t185, .int .i64 t186] 74 (0, 0)) (by (with_reducible repeat (first | refine blk_drewN ?_ _ | refine blk_drew ?_ | refine blk_alloc ?_ _)); exact BK190.out) hb)
       have n6_ := Aside0.mk (below_step (by repeat (first | (with_reducible first | exact HB.out | apply below_alloc | apply pw_below_drewN | apply below_drew1 | refine below_set ?_ GE171.out | refine below_set ?_ GE177.out | refine below_set ?_ GE187.out | refine below_set ?_ GE188.out | refine below_set ?_ GE189.out | refine below_set ?_ GE190.out) | exact HB.out)) hb)
       clear BK171
       clear BK177
       clear BK187
       clear BK188
       clear BK189
       clear BK190
       clear HB
       have BK171 := n0_
       have BK177 := n1_
       have BK187 := n2_
       have BK188 := n3_
       have BK189 := n4_
       have BK190 := n5_
       have HB := n6_
       clear n0_ n1_ n2_ n3_ n4_ n5_ n6_
       (try clear hb)
       (try clear hb2)
       (try clear hk)
       (try clear hi)
       refine hK.out _ _ ⟨(blk_cell BK171.out 0).trans rfl, (blk_cell BK171.out 1).trans rfl, (blk_cell BK171.out 2).trans rfl, (blk_cell BK171.out 3).trans rfl, (blk_cell BK171.out 4).trans rfl, (blk_cell BK177.out 0).trans rfl, (blk_cell BK177.out 1).trans rfl, (blk_cell BK177.out 2).trans rfl, (blk_cell BK177.out 3).trans rfl, (blk_cell BK177.out 4).trans rfl⟩ (fun hHeld => ?_)
       clear hK K
       refine norm_ (a' := ?_) ?_ ?_
       rotate_left
       ·show Act.put _ (some 47) _ = _
        simp only [Act.put, List.setIfInBounds_toArray, List.set_cons_zero, List.set_cons_succ, i64_w, i32_w]
        rfl
       refine pure_ (i := 27) (N := some 48) (v := ?_) (a' := ?_) #[true, true, true, true, true, true, true, true, true, true, true, true, true, true, true, true, true, true, true, true, true, true, true, true, true, true, true, true, false, false, false, false, false, false, false, false] rfl rfl (any_of HT_.out (by kernel_rfl)) (fun _ _ _ h => h) (Or.inl ⟨by rfl, ?_⟩) ?_ ?_
       rotate_left
       ·intro w'
        go_simp
        with_reducible rfl
       rotate_left
       ·simp only [Act.put, List.setIfInBounds_toArray, List.set_cons_zero, List.set_cons_succ, i64_w, i32_w]
        rfl
       refine pure_ (i := 28) (N := some 49) (v := ?_) (a' := ?_) #[true, true, true, true, true, true, true, true, true, true, true, true, true, true, true, true, true, true, true, true, true, true, true, true, true, true, true, true, true, false, false, false, false, false, false, false] rfl rfl (any_of HT_.out (by kernel_rfl)) (fun _ _ _ h => h) (Or.inl ⟨by rfl, ?_⟩) ?_ ?_
       rotate_left
       ·intro w'
        go_simp
        with_reducible rfl
       rotate_left
       ·simp only [Act.put, List.setIfInBounds_toArray, List.set_cons_zero, List.set_cons_succ, i64_w, i32_w]
        rfl
       refine pure_ (i := 29) (N := some 50) (v := ?_) (a' := ?_) #[true, true, true, true, true, true, true, true, true, true, true, true, true, true, true, true, true, true, true, true, true, true, true, true, true, true, true, true, true, true, false, false, false, false, false, false] rfl rfl (any_of HT_.out (by kernel_rfl)) (fun _ _ _ h => h) (Or.inl ⟨by rfl, ?_⟩) ?_ ?_
       rotate_left
       ·intro w'
        go_simp
        with_reducible rfl
       rotate_left
       ·simp only [Act.put, List.setIfInBounds_toArray, List.set_cons_zero, List.set_cons_succ, i64_w, i32_w]
        rfl
       refine take_ (i := 30) (N := some 51) (v := ?_) (a' := ?_) #[true, true, true, true, true, true, true, true, true, true, true, true, true, true, true, true, true, true, true, true, true, true, true, true, true, true, true, true, true, true, true, false, false, false, false, false] rfl rfl (take_ofW HT_.out HW_.out (by kernel_rfl)) (fun _ _ _ h => h) (Or.inl ⟨by rfl, ?_⟩) hHeld ?_ ?_
       rotate_left
       ·rintro w' ⟨s0, s1, s2, s3, s4, s5, s6, s7, s8, s9⟩
        go_simp
        with_reducible rfl
       rotate_left
       ·simp only [Act.put, List.setIfInBounds_toArray, List.set_cons_zero, List.set_cons_succ, i64_w, i32_w]
        rfl
       refine take_ (i := 32) (N := some 53) (v := ?_) (a' := ?_) #[true, true, true, true, true, true, true, true, true, true, true, true, true, true, true, true, true, true, true, true, true, true, true, true, true, true, true, true, true, true, true, false, true, false, false, false] rfl rfl (take_ofW HT_.out HW_.out (by kernel_rfl)) (fun _ _ _ h => h) (Or.inl ⟨by rfl, ?_⟩) hHeld ?_ ?_
       rotate_left
       ·rintro w' ⟨s0, s1, s2, s3, s4, s5, s6, s7, s8, s9⟩
        go_simp
        with_reducible rfl
       rotate_left
       ·simp only [Act.put, List.setIfInBounds_toArray, List.set_cons_zero, List.set_cons_succ, i64_w, i32_w]
        rfl
       refine one_ (i := 31) (N := some 52) #[true, true, true, true, true, true, true, true, true, true, true, true, true, true, true, true, true, true, true, true, true, true, true, true, true, true, true, true, true, true, true, true, true, false, false, false] rfl rfl (one_of HT_.out (by kernel_rfl)) (by decide) (fun K hK => ?_)
       refine goes_ Try.func56 (by kernel_rfl) rfl #[.agg #[.int .i64 a0_0, .int .i64 a0_1, .int .i64 a0_2, .int .i64 a0_3, .bool a0_4]] (by rfl) rfl rfl (by (try simp only [List.map_toArray, List.map_cons, List.map_nil]); first | done | rfl | (simp only [List.length_drop, List.length_take]; rfl)) ?_
       with_reducible refine (header_Header_Least.calls a0_0 a0_1 a0_2 a0_3 a0_4 t198 _ A46.out).mono ?_
       rintro e w56 ⟨rfl, hb⟩
       refine ⟨_, rfl, ?_⟩
       have n0_ := Aside0.mk (blk_below (g := gb171) (o := .cells #[.int .i64 a0_0, .int .i64 a0_1, .int .i64 a0_2, .int .i64 a0_3, .bool a0_4] 69 (0, 0)) (by (with_reducible repeat (first | refine blk_drewN ?_ _ | refine blk_drew ?_ | refine blk_alloc ?_ _)); exact BK171.out) hb)
       have n1_ := Aside0.mk (blk_below (g := gb177) (o := .cells #[.int .i64 t172, .int .i64 t173, .int .i64 t174, .int .i64 t175, .bool t176] 70 (0, 0)) (by (with_reducible repeat (first | refine blk_drewN ?_ _ | refine blk_drew ?_ | refine blk_alloc ?_ _)); exact BK177.out) hb)
       have n2_ := Aside0.mk (blk_below (g := gb187) (o := .cells #[.int .i64 t179, .int .i64 t180] 74 (0, 0)) (by (with_reducible repeat (first | refine blk_drewN ?_ _ | refine blk_drew ?_ | refine blk_alloc ?_ _)); exact BK187.out) hb)
       have n3_ := Aside0.mk (blk_below (g := gb188) (o := .cells #[.int .i64 t181, .int .i64 t182] 74 (0, 0)) (by (with_reducible repeat (first | refine blk_drewN ?_ _ | refine blk_drew ?_ | refine blk_alloc ?_ _)); exact BK188.out) hb)
       have n4_ := Aside0.mk (blk_below (g := gb189) (o := .cells #[.int .i64 t183, .int .i64 t184] 74 (0, 0)) (by (with_reducible repeat (first | refine blk_drewN ?_ _ | refine blk_drew ?_ | refine blk_alloc ?_ _)); exact BK189.out) hb)
       have n5_ := Aside0.mk (blk_below (g := gb190) (o := .cells #[.int .i64 t185, .int .i64 t186] 74 (0, 0)) (by (with_reducible repeat (first | refine blk_drewN ?_ _ | refine blk_drew ?_ | refine blk_alloc ?_ _)); exact BK190.out) hb)
       have n6_ := Aside0.mk (below_step (by repeat (first | (with_reducible first | exact HB.out | apply below_alloc | apply pw_below_drewN | apply below_drew1 | refine below_set ?_ GE171.out | refine below_set ?_ GE177.out | refine below_set ?_ GE187.out | refine below_set ?_ GE188.out | refine below_set ?_ GE189.out | refine below_set ?_ GE190.out) | exact HB.out)) hb)
       clear BK171
       clear BK177
       clear BK187
       clear BK188
       clear BK189
       clear BK190
       clear HB
       have BK171 := n0_
       have BK177 := n1_
       have BK187 := n2_
       have BK188 := n3_
       have BK189 := n4_
       have BK190 := n5_
       have HB := n6_
       clear n0_ n1_ n2_ n3_ n4_ n5_ n6_
       (try clear hb)
       (try clear hb2)
       (try clear hk)
       (try clear hi)
       refine hK.out _ _ ⟨(blk_cell BK171.out 0).trans rfl, (blk_cell BK171.out 1).trans rfl, (blk_cell BK171.out 2).trans rfl, (blk_cell BK171.out 3).trans rfl, (blk_cell BK171.out 4).trans rfl, (blk_cell BK177.out 0).trans rfl, (blk_cell BK177.out 1).trans rfl, (blk_cell BK177.out 2).trans rfl, (blk_cell BK177.out 3).trans rfl, (blk_cell BK177.out 4).trans rfl⟩ (fun hHeld => ?_)
       clear hK K
       refine norm_ (a' := ?_) ?_ ?_
       rotate_left
       ·show Act.put _ (some 52) _ = _
        simp only [Act.put, List.setIfInBounds_toArray, List.set_cons_zero, List.set_cons_succ, i64_w, i32_w]
        rfl
       refine one_ (i := 33) (N := some 54) #[true, true, true, true, true, true, true, true, true, true, true, true, true, true, true, true, true, true, true, true, true, true, true, true, true, true, true, true, true, true, true, true, true, true, false, false] rfl rfl (one_of HT_.out (by kernel_rfl)) (by decide) (fun K hK => ?_)
       refine goes_ Try.func57 (by kernel_rfl) rfl #[.agg #[.int .i64 t172, .int .i64 t173, .int .i64 t174, .int .i64 t175, .bool t176]] (by rfl) rfl rfl (by (try simp only [List.map_toArray, List.map_cons, List.map_nil]); first | done | rfl | (simp only [List.length_drop, List.length_take]; rfl)) ?_
       with_reducible refine (fettleref07_Head_Least.calls k t172 t173 t174 t175 t176 t199 _ A47.out).mono ?_
       rintro e w57 ⟨rfl, hb⟩
       refine ⟨_, rfl, ?_⟩
       have n0_ := Aside0.mk (blk_below (g := gb171) (o := .cells #[.int .i64 a0_0, .int .i64 a0_1, .int .i64 a0_2, .int .i64 a0_3, .bool a0_4] 69 (0, 0)) (by (with_reducible repeat (first | refine blk_drewN ?_ _ | refine blk_drew ?_ | refine blk_alloc ?_ _)); exact BK171.out) hb)
       have n1_ := Aside0.mk (blk_below (g := gb177) (o := .cells #[.int .i64 t172, .int .i64 t173, .int .i64 t174, .int .i64 t175, .bool t176] 70 (0, 0)) (by (with_reducible repeat (first | refine blk_drewN ?_ _ | refine blk_drew ?_ | refine blk_alloc ?_ _)); exact BK177.out) hb)
       have n2_ := Aside0.mk (blk_below (g := gb187) (o := .cells #[.int .i64 t179, .int .i64 t180] 74 (0, 0)) (by (with_reducible repeat (first | refine blk_drewN ?_ _ | refine blk_drew ?_ | refine blk_alloc ?_ _)); exact BK187.out) hb)
       have n3_ := Aside0.mk (blk_below (g := gb188) (o := .cells #[.int .i64 t181, .int .i64 t182] 74 (0, 0)) (by (with_reducible repeat (first | refine blk_drewN ?_ _ | refine blk_drew ?_ | refine blk_alloc ?_ _)); exact BK188.out) hb)
       have n4_ := Aside0.mk (blk_below (g := gb189) (o := .cells #[.int .i64 t183, .int .i64 t184] 74 (0, 0)) (by (with_reducible repeat (first | refine blk_drewN ?_ _ | refine blk_drew ?_ | refine blk_alloc ?_ _)); exact BK189.out) hb)
       have n5_ := Aside0.mk (blk_below (g := gb190) (o := .cells #[.int .i64 t185, .int .i64 t186] 74 (0, 0)) (by (with_reducible repeat (first | refine blk_drewN ?_ _ | refine blk_drew ?_ | refine blk_alloc ?_ _)); exact BK190.out) hb)
       have n6_ := Aside0.mk (below_step (by repeat (first | (with_reducible first | exact HB.out | apply below_alloc | apply pw_below_drewN | apply below_drew1 | refine below_set ?_ GE171.out | refine below_set ?_ GE177.out | refine below_set ?_ GE187.out | refine below_set ?_ GE188.out | refine below_set ?_ GE189.out | refine below_set ?_ GE190.out) | exact HB.out)) hb)
       clear BK171
       clear BK177
       clear BK187
       clear BK188
       clear BK189
       clear BK190
       clear HB
       have BK171 := n0_
       have BK177 := n1_
       have BK187 := n2_
       have BK188 := n3_
       have BK189 := n4_
       have BK190 := n5_
       have HB := n6_
       clear n0_ n1_ n2_ n3_ n4_ n5_ n6_
       (try clear hb)
       (try clear hb2)
       (try clear hk)
       (try clear hi)
       refine hK.out _ _ ⟨(blk_cell BK171.out 0).trans rfl, (blk_cell BK171.out 1).trans rfl, (blk_cell BK171.out 2).trans rfl, (blk_cell BK171.out 3).trans rfl, (blk_cell BK171.out 4).trans rfl, (blk_cell BK177.out 0).trans rfl, (blk_cell BK177.out 1).trans rfl, (blk_cell BK177.out 2).trans rfl, (blk_cell BK177.out 3).trans rfl, (blk_cell BK177.out 4).trans rfl⟩ (fun hHeld => ?_)
       clear hK K
       refine norm_ (a' := ?_) ?_ ?_
       rotate_left
       ·show Act.put _ (some 54) _ = _
        simp only [Act.put, List.setIfInBounds_toArray, List.set_cons_zero, List.set_cons_succ, i64_w, i32_w]
        rfl
       refine pure_ (i := 34) (N := some 55) (v := ?_) (a' := ?_) #[true, true, true, true, true, true, true, true, true, true, true, true, true, true, true, true, true, true, true, true, true, true, true, true, true, true, true, true, true, true, true, true, true, true, true, false] rfl rfl (any_of HT_.out (by kernel_rfl)) (fun _ _ _ h => h) (Or.inl ⟨by rfl, ?_⟩) ?_ ?_
       rotate_left
       ·intro w'
        go_simp
        with_reducible rfl
       rotate_left
       ·simp only [Act.put, List.setIfInBounds_toArray, List.set_cons_zero, List.set_cons_succ, i64_w, i32_w]
        rfl
       refine pure_ (i := 35) (N := some 56) (v := ?_) (a' := ?_) #[true, true, true, true, true, true, true, true, true, true, true, true, true, true, true, true, true, true, true, true, true, true, true, true, true, true, true, true, true, true, true, true, true, true, true, true] rfl rfl (any_of HT_.out (by kernel_rfl)) (fun _ _ _ h => h) (Or.inl ⟨by rfl, ?_⟩) ?_ ?_
       rotate_left
       ·intro w'
        go_simp
        with_reducible rfl
       rotate_left
       ·simp only [Act.put, List.setIfInBounds_toArray, List.set_cons_zero, List.set_cons_succ, i64_w, i32_w]
        rfl
       refine done_ (done_of HT_.out (by kernel_rfl)) ?_
       try go_wp2
       go_meet
       case rel => exact ⟨_, ((t198 != t199)), (by first | rfl | (simp; done) | (simp [*]; done) | (simp [*, Int.tdiv_eq_ediv_of_nonneg]; done)), H', ⟨by first | omega | exact Nat.le_refl _⟩, ⟨by (with_reducible repeat (first | refine blk_drewN ?_ _ | refine blk_drew ?_ | refine blk_alloc ?_ _)); exact BK171.out⟩, ⟨by (with_reducible repeat (first | refine blk_drewN ?_ _ | refine blk_drew ?_ | refine blk_alloc ?_ _)); exact BK177.out⟩, ⟨by (with_reducible repeat (first | refine blk_drewN ?_ _ | refine blk_drew ?_ | refine blk_alloc ?_ _)); exact BK187.out⟩, ⟨by (with_reducible repeat (first | refine blk_drewN ?_ _ | refine blk_drew ?_ | refine blk_alloc ?_ _)); exact BK188.out⟩, ⟨by (with_reducible repeat (first | refine blk_drewN ?_ _ | refine blk_drew ?_ | refine blk_alloc ?_ _)); exact BK189.out⟩, ⟨by (with_reducible repeat (first | refine blk_drewN ?_ _ | refine blk_drew ?_ | refine blk_alloc ?_ _)); exact BK190.out⟩, ⟨by repeat (first | (with_reducible first | exact HB.out | apply below_alloc | apply pw_below_drewN | apply below_drew1 | refine below_set ?_ GE171.out | refine below_set ?_ GE177.out | refine below_set ?_ GE187.out | refine below_set ?_ GE188.out | refine below_set ?_ GE189.out | refine below_set ?_ GE190.out) | exact HB.out)⟩⟩
      ·rw [if_neg c45] at H
       exact absurd H (by simp)
     ·rw [if_neg c42] at H
      exact absurd H (by simp)
    ·rw [if_neg c39] at H
     exact absurd H (by simp)
   ·rw [if_neg c37] at H
    exact absurd H (by simp)
  ·replace c35 := Bool.eq_false_iff.mpr c35
   subst c35
   have H1 : (none) = some r := by rw [if_neg (show ¬ (false = true) by decide)] at H; exact H
   clear H
   have H := H1
   clear H1
   exact absurd H (by simp)
 case rest =>
  clear HC8
  try clear p2
  try clear c3
  try clear c4
  try clear c5
  try clear c35
  try clear c37
  try clear c39
  try clear c42
  try clear c45
  try clear c49
  try clear c50
  try clear c51
  try clear c52
  try clear c53
  try clear c54
  try clear c55
  try clear c56
  try clear c57
  obtain ⟨kq, x56_7, rfl, HA, HJ7, BK171, BK177, BK187, BK188, BK189, BK190, HB⟩ := hcut
  cases kq with
  | zero => exact absurd HA.out (by simp [fettlelaw07_HeaderPlaces.j0])
  | succ kj7 =>
   have H := HA.out
   clear HA
   simp only [fettlelaw07_HeaderPlaces.j0] at H
   by_cases c58 : x56_7 = true
   ·subst c58
    have H1 : (none) = some r := by rw [if_pos rfl] at H; exact H
    clear H
    have H := H1
    clear H1
    exact absurd H (by simp)
   ·replace c58 := Bool.eq_false_iff.mpr c58
    subst c58
    have H1 : ((fettleref07_Head_At.f kj7 t172 t173 t174 t175 t176 1).bind fun t200 => ((fettleref07_Head_At.f kj7 t172 t173 t174 t175 t176 2).bind fun t201 => (if (t179 == (wrap64 (t178 * t200)) && (t180 == (wrap64 (t178 * t201)))) = true then ((fettleref07_Head_At.f kj7 t172 t173 t174 t175 t176 2).bind fun t202 => ((fettleref07_Head_At.f kj7 t172 t173 t174 t175 t176 3).bind fun t203 => (if (t181 == (wrap64 (t178 * t202)) && (t182 == (wrap64 (t178 * t203)))) = true then ((fettleref07_Head_At.f kj7 t172 t173 t174 t175 t176 3).bind fun t204 => ((fettleref07_Head_At.f kj7 t172 t173 t174 t175 t176 4).bind fun t205 => (if (t183 == (wrap64 (t178 * t204)) && (t184 == (wrap64 (t178 * t205)))) = true then ((fettleref07_Head_At.f kj7 t172 t173 t174 t175 t176 4).bind fun t206 => ((fettleref07_Head_At.f kj7 t172 t173 t174 t175 t176 5).bind fun t207 => (some (t185 == (wrap64 (t178 * t206)) && (t186 == (wrap64 (t178 * t207))))))) else (none)))) else (none)))) else (none)))) = some r := by rw [if_neg (show ¬ (false = true) by decide)] at H; exact H
    clear H
    have H := H1
    clear H1
    replace H := Option.bind_eq_some_iff.mp H
    obtain ⟨t200, A590, H⟩ := H
    replace H : ((fettleref07_Head_At.f kj7 t172 t173 t174 t175 t176 2).bind fun t201 => (if (t179 == (wrap64 (t178 * t200)) && (t180 == (wrap64 (t178 * t201)))) = true then ((fettleref07_Head_At.f kj7 t172 t173 t174 t175 t176 2).bind fun t202 => ((fettleref07_Head_At.f kj7 t172 t173 t174 t175 t176 3).bind fun t203 => (if (t181 == (wrap64 (t178 * t202)) && (t182 == (wrap64 (t178 * t203)))) = true then ((fettleref07_Head_At.f kj7 t172 t173 t174 t175 t176 3).bind fun t204 => ((fettleref07_Head_At.f kj7 t172 t173 t174 t175 t176 4).bind fun t205 => (if (t183 == (wrap64 (t178 * t204)) && (t184 == (wrap64 (t178 * t205)))) = true then ((fettleref07_Head_At.f kj7 t172 t173 t174 t175 t176 4).bind fun t206 => ((fettleref07_Head_At.f kj7 t172 t173 t174 t175 t176 5).bind fun t207 => (some (t185 == (wrap64 (t178 * t206)) && (t186 == (wrap64 (t178 * t207))))))) else (none)))) else (none)))) else (none))) = some r := H
    have A59 := Aside0.mk A590
    clear A590
    replace H := Option.bind_eq_some_iff.mp H
    obtain ⟨t201, A600, H⟩ := H
    replace H : (if (t179 == (wrap64 (t178 * t200)) && (t180 == (wrap64 (t178 * t201)))) = true then ((fettleref07_Head_At.f kj7 t172 t173 t174 t175 t176 2).bind fun t202 => ((fettleref07_Head_At.f kj7 t172 t173 t174 t175 t176 3).bind fun t203 => (if (t181 == (wrap64 (t178 * t202)) && (t182 == (wrap64 (t178 * t203)))) = true then ((fettleref07_Head_At.f kj7 t172 t173 t174 t175 t176 3).bind fun t204 => ((fettleref07_Head_At.f kj7 t172 t173 t174 t175 t176 4).bind fun t205 => (if (t183 == (wrap64 (t178 * t204)) && (t184 == (wrap64 (t178 * t205)))) = true then ((fettleref07_Head_At.f kj7 t172 t173 t174 t175 t176 4).bind fun t206 => ((fettleref07_Head_At.f kj7 t172 t173 t174 t175 t176 5).bind fun t207 => (some (t185 == (wrap64 (t178 * t206)) && (t186 == (wrap64 (t178 * t207))))))) else (none)))) else (none)))) else (none)) = some r := H
    have A60 := Aside0.mk A600
    clear A600
    by_cases c61 : (t179 == (wrap64 (t178 * t200)) && (t180 == (wrap64 (t178 * t201)))) = true
    ·rw [if_pos c61] at H
     have c61b0 : (t179 == (wrap64 (t178 * t200)) && (t180 == (wrap64 (t178 * t201)))) = true := c61
     (try (have c61b1 : decide (t179 = (wrap64 (t178 * t200)) && (t180 == (wrap64 (t178 * t201)))) = true := by simpa using c61))
     (try (have c61b2 : (t179 == (wrap64 (t178 * t200)) && (t180 == (wrap64 (t178 * t201)))) = true := by simpa using c61))
     clear c61
     replace H := Option.bind_eq_some_iff.mp H
     obtain ⟨t202, A620, H⟩ := H
     replace H : ((fettleref07_Head_At.f kj7 t172 t173 t174 t175 t176 3).bind fun t203 => (if (t181 == (wrap64 (t178 * t202)) && (t182 == (wrap64 (t178 * t203)))) = true then ((fettleref07_Head_At.f kj7 t172 t173 t174 t175 t176 3).bind fun t204 => ((fettleref07_Head_At.f kj7 t172 t173 t174 t175 t176 4).bind fun t205 => (if (t183 == (wrap64 (t178 * t204)) && (t184 == (wrap64 (t178 * t205)))) = true then ((fettleref07_Head_At.f kj7 t172 t173 t174 t175 t176 4).bind fun t206 => ((fettleref07_Head_At.f kj7 t172 t173 t174 t175 t176 5).bind fun t207 => (some (t185 == (wrap64 (t178 * t206)) && (t186 == (wrap64 (t178 * t207))))))) else (none)))) else (none))) = some r := H
     have A62 := Aside0.mk A620
     clear A620
     replace H := Option.bind_eq_some_iff.mp H
     obtain ⟨t203, A630, H⟩ := H
     replace H : (if (t181 == (wrap64 (t178 * t202)) && (t182 == (wrap64 (t178 * t203)))) = true then ((fettleref07_Head_At.f kj7 t172 t173 t174 t175 t176 3).bind fun t204 => ((fettleref07_Head_At.f kj7 t172 t173 t174 t175 t176 4).bind fun t205 => (if (t183 == (wrap64 (t178 * t204)) && (t184 == (wrap64 (t178 * t205)))) = true then ((fettleref07_Head_At.f kj7 t172 t173 t174 t175 t176 4).bind fun t206 => ((fettleref07_Head_At.f kj7 t172 t173 t174 t175 t176 5).bind fun t207 => (some (t185 == (wrap64 (t178 * t206)) && (t186 == (wrap64 (t178 * t207))))))) else (none)))) else (none)) = some r := H
     have A63 := Aside0.mk A630
     clear A630
     by_cases c64 : (t181 == (wrap64 (t178 * t202)) && (t182 == (wrap64 (t178 * t203)))) = true
     ·rw [if_pos c64] at H
      have c64b0 : (t181 == (wrap64 (t178 * t202)) && (t182 == (wrap64 (t178 * t203)))) = true := c64
      (try (have c64b1 : decide (t181 = (wrap64 (t178 * t202)) && (t182 == (wrap64 (t178 * t203)))) = true := by simpa using c64))
      (try (have c64b2 : (t181 == (wrap64 (t178 * t202)) && (t182 == (wrap64 (t178 * t203)))) = true := by simpa using c64))
      clear c64
      replace H := Option.bind_eq_some_iff.mp H
      obtain ⟨t204, A650, H⟩ := H
      replace H : ((fettleref07_Head_At.f kj7 t172 t173 t174 t175 t176 4).bind fun t205 => (if (t183 == (wrap64 (t178 * t204)) && (t184 == (wrap64 (t178 * t205)))) = true then ((fettleref07_Head_At.f kj7 t172 t173 t174 t175 t176 4).bind fun t206 => ((fettleref07_Head_At.f kj7 t172 t173 t174 t175 t176 5).bind fun t207 => (some (t185 == (wrap64 (t178 * t206)) && (t186 == (wrap64 (t178 * t207))))))) else (none))) = some r := H
      have A65 := Aside0.mk A650
      clear A650
      replace H := Option.bind_eq_some_iff.mp H
      obtain ⟨t205, A660, H⟩ := H
      replace H : (if (t183 == (wrap64 (t178 * t204)) && (t184 == (wrap64 (t178 * t205)))) = true then ((fettleref07_Head_At.f kj7 t172 t173 t174 t175 t176 4).bind fun t206 => ((fettleref07_Head_At.f kj7 t172 t173 t174 t175 t176 5).bind fun t207 => (some (t185 == (wrap64 (t178 * t206)) && (t186 == (wrap64 (t178 * t207))))))) else (none)) = some r := H
      have A66 := Aside0.mk A660
      clear A660
      by_cases c67 : (t183 == (wrap64 (t178 * t204)) && (t184 == (wrap64 (t178 * t205)))) = true
      ·rw [if_pos c67] at H
       have c67b0 : (t183 == (wrap64 (t178 * t204)) && (t184 == (wrap64 (t178 * t205)))) = true := c67
       (try (have c67b1 : decide (t183 = (wrap64 (t178 * t204)) && (t184 == (wrap64 (t178 * t205)))) = true := by simpa using c67))
       (try (have c67b2 : (t183 == (wrap64 (t178 * t204)) && (t184 == (wrap64 (t178 * t205)))) = true := by simpa using c67))
       clear c67
       replace H := Option.bind_eq_some_iff.mp H
       obtain ⟨t206, A680, H⟩ := H
       replace H : ((fettleref07_Head_At.f kj7 t172 t173 t174 t175 t176 5).bind fun t207 => (some (t185 == (wrap64 (t178 * t206)) && (t186 == (wrap64 (t178 * t207)))))) = some r := H
       have A68 := Aside0.mk A680
       clear A680
       replace H := Option.bind_eq_some_iff.mp H
       obtain ⟨t207, A690, H⟩ := H
       replace H : (some (t185 == (wrap64 (t178 * t206)) && (t186 == (wrap64 (t178 * t207))))) = some r := H
       have A69 := Aside0.mk A690
       clear A690
       obtain rfl := Option.some.inj H
       try go_wp2
       have n0_ := Aside0.mk (blk_drew BK171.out)
       have n1_ := Aside0.mk (blk_drew BK177.out)
       have n2_ := Aside0.mk (blk_drew BK187.out)
       have n3_ := Aside0.mk (blk_drew BK188.out)
       have n4_ := Aside0.mk (blk_drew BK189.out)
       have n5_ := Aside0.mk (blk_drew BK190.out)
       have n6_ := Aside0.mk (below_drew1 HB.out)
       clear BK171
       clear BK177
       clear BK187
       clear BK188
       clear BK189
       clear BK190
       clear HB
       have BK171 := n0_
       have BK177 := n1_
       have BK187 := n2_
       have BK188 := n3_
       have BK189 := n4_
       have BK190 := n5_
       have HB := n6_
       clear n0_ n1_ n2_ n3_ n4_ n5_ n6_
       refine start_ (n := 51) (S := fun w' => w'.cell? ⟨gb187, 0, none⟩ = some (.int .i64 t179) ∧ w'.cell? ⟨gb187, 1, none⟩ = some (.int .i64 t180) ∧ w'.cell? ⟨gb177, 0, none⟩ = some (.int .i64 t172) ∧ w'.cell? ⟨gb177, 1, none⟩ = some (.int .i64 t173) ∧ w'.cell? ⟨gb177, 2, none⟩ = some (.int .i64 t174) ∧ w'.cell? ⟨gb177, 3, none⟩ = some (.int .i64 t175) ∧ w'.cell? ⟨gb177, 4, none⟩ = some (.bool t176) ∧ w'.cell? ⟨gb188, 0, none⟩ = some (.int .i64 t181) ∧ w'.cell? ⟨gb188, 1, none⟩ = some (.int .i64 t182) ∧ w'.cell? ⟨gb189, 0, none⟩ = some (.int .i64 t183) ∧ w'.cell? ⟨gb189, 1, none⟩ = some (.int .i64 t184) ∧ w'.cell? ⟨gb190, 0, none⟩ = some (.int .i64 t185) ∧ w'.cell? ⟨gb190, 1, none⟩ = some (.int .i64 t186)) (ds := []) #[false, false, false, false, false, false, false, false, false, false, false, false, false, false, false, false, false, false, false, false, false, false, false, false, false, false, false, false, false, false, false, false, false, false, false, false, false, false, false, false, false, false, false, false, false, false, false, false, false, false, false] (by kernel_rfl) rfl rfl ⟨(blk_cell BK187.out 0).trans rfl, (blk_cell BK187.out 1).trans rfl, (blk_cell BK177.out 0).trans rfl, (blk_cell BK177.out 1).trans rfl, (blk_cell BK177.out 2).trans rfl, (blk_cell BK177.out 3).trans rfl, (blk_cell BK177.out 4).trans rfl, (blk_cell BK188.out 0).trans rfl, (blk_cell BK188.out 1).trans rfl, (blk_cell BK189.out 0).trans rfl, (blk_cell BK189.out 1).trans rfl, (blk_cell BK190.out 0).trans rfl, (blk_cell BK190.out 1).trans rfl⟩ (fun hHeld => ?_); refine with_tabW fettlelaw07_HeaderPlaces.tab6 fettlelaw07_HeaderPlaces.bits6 (fun HT_ HW_ => ?_)
       generalize wc.drew = w70 at BK171 BK177 BK187 BK188 BK189 BK190 HB hHeld ⊢
       refine pure_ (i := 1) (N := some 58) (v := ?_) (a' := ?_) #[false, true, false, false, false, false, false, false, false, false, false, false, false, false, false, false, false, false, false, false, false, false, false, false, false, false, false, false, false, false, false, false, false, false, false, false, false, false, false, false, false, false, false, false, false, false, false, false, false, false, false] rfl rfl (any_of HT_.out (by kernel_rfl)) (fun _ _ _ h => h) (Or.inl ⟨by rfl, ?_⟩) ?_ ?_
       rotate_left
       ·intro w'
        go_simp
        with_reducible rfl
       rotate_left
       ·simp only [Act.put, List.setIfInBounds_toArray, List.set_cons_zero, List.set_cons_succ, i64_w, i32_w]
        rfl
       refine pure_ (i := 5) (N := some 62) (v := ?_) (a' := ?_) #[false, true, false, false, false, true, false, false, false, false, false, false, false, false, false, false, false, false, false, false, false, false, false, false, false, false, false, false, false, false, false, false, false, false, false, false, false, false, false, false, false, false, false, false, false, false, false, false, false, false, false] rfl rfl (any_of HT_.out (by kernel_rfl)) (fun _ _ _ h => h) (Or.inl ⟨by rfl, ?_⟩) ?_ ?_
       rotate_left
       ·intro w'
        go_simp
        with_reducible rfl
       rotate_left
       ·simp only [Act.put, List.setIfInBounds_toArray, List.set_cons_zero, List.set_cons_succ, i64_w, i32_w]
        rfl
       refine take_ (i := 0) (N := some 57) (v := ?_) (a' := ?_) #[true, true, false, false, false, true, false, false, false, false, false, false, false, false, false, false, false, false, false, false, false, false, false, false, false, false, false, false, false, false, false, false, false, false, false, false, false, false, false, false, false, false, false, false, false, false, false, false, false, false, false] rfl rfl (take_ofW HT_.out HW_.out (by kernel_rfl)) (fun _ _ _ h => h) (Or.inl ⟨by rfl, ?_⟩) hHeld ?_ ?_
       rotate_left
       ·rintro w' ⟨s0, s1, s2, s3, s4, s5, s6, s7, s8, s9, s10, s11, s12⟩
        go_simp
        with_reducible rfl
       rotate_left
       ·simp only [Act.put, List.setIfInBounds_toArray, List.set_cons_zero, List.set_cons_succ, i64_w, i32_w]
        rfl
       refine take_ (i := 2) (N := some 59) (v := ?_) (a' := ?_) #[true, true, true, false, false, true, false, false, false, false, false, false, false, false, false, false, false, false, false, false, false, false, false, false, false, false, false, false, false, false, false, false, false, false, false, false, false, false, false, false, false, false, false, false, false, false, false, false, false, false, false] rfl rfl (take_ofW HT_.out HW_.out (by kernel_rfl)) (fun _ _ _ h => h) (Or.inl ⟨by rfl, ?_⟩) hHeld ?_ ?_
       rotate_left
       ·rintro w' ⟨s0, s1, s2, s3, s4, s5, s6, s7, s8, s9, s10, s11, s12⟩
        go_simp
        with_reducible rfl
       rotate_left
       ·simp only [Act.put, List.setIfInBounds_toArray, List.set_cons_zero, List.set_cons_succ, i64_w, i32_w]
        rfl
       refine take_ (i := 6) (N := some 63) (v := ?_) (a' := ?_) #[true, true, true, false, false, true, true, false, false, false, false, false, false, false, false, false, false, false, false, false, false, false, false, false, false, false, false, false, false, false, false, false, false, false, false, false, false, false, false, false, false, false, false, false, false, false, false, false, false, false, false] rfl rfl (take_ofW HT_.out HW_.out (by kernel_rfl)) (fun _ _ _ h => h) (Or.inl ⟨by rfl, ?_⟩) hHeld ?_ ?_
       rotate_left
       ·rintro w' ⟨s0, s1, s2, s3, s4, s5, s6, s7, s8, s9, s10, s11, s12⟩
        go_simp
        with_reducible rfl
       rotate_left
       ·simp only [Act.put, List.setIfInBounds_toArray, List.set_cons_zero, List.set_cons_succ, i64_w, i32_w]
        rfl
       refine one_ (i := 3) (N := some 60) #[true, true, true, true, false, true, true, false, false, false, false, false, false, false, false, false, false, false, false, false, false, false, false, false, false, false, false, false, false, false, false, false, false, false, false, false, false, false, false, false, false, false, false, false, false, false, false, false, false, false, false] rfl rfl (one_of HT_.out (by kernel_rfl)) (by decide) (fun K hK => ?_)
       refine goes_ Try.func55 (by kernel_rfl) rfl #[.agg #[.int .i64 t172, .int .i64 t173, .int .i64 t174, .int .i64 t175, .bool t176], .int .i64 1] (by rfl) rfl rfl (by (try simp only [List.map_toArray, List.map_cons, List.map_nil]); first | done | rfl | (simp only [List.length_drop, List.length_take]; rfl)) ?_
       with_reducible refine (fettleref07_Head_At.calls kj7 t172 t173 t174 t175 t176 1 t200 _ A59.out).mono ?_
       rintro e w71 ⟨rfl, hb⟩
       refine ⟨_, rfl, ?_⟩
       have n0_ := Aside0.mk (blk_below (g := gb171) (o := .cells #[.int .i64 a0_0, .int .i64 a0_1, .int .i64 a0_2, .int .i64 a0_3, .bool a0_4] 69 (0, 0)) (by (with_reducible repeat (first | refine blk_drewN ?_ _ | refine blk_drew ?_ | refine blk_alloc ?_ _)); exact BK171.out) hb)
       have n1_ := Aside0.mk (blk_below (g := gb177) (o := .cells #[.int .i64 t172, .int .i64 t173, .int .i64 t174, .int .i64 t175, .bool t176] 70 (0, 0)) (by (with_reducible repeat (first | refine blk_drewN ?_ _ | refine blk_drew ?_ | refine blk_alloc ?_ _)); exact BK177.out) hb)
       have n2_ := Aside0.mk (blk_below (g := gb187) (o := .cells #[.int .i64 t179, .int .i64 t180] 74 (0, 0)) (by (with_reducible repeat (first | refine blk_drewN ?_ _ | refine blk_drew ?_ | refine blk_alloc ?_ _)); exact BK187.out) hb)
       have n3_ := Aside0.mk (blk_below (g := gb188) (o := .cells #[.int .i64 t181, .int .i64 t182] 74 (0, 0)) (by (with_reducible repeat (first | refine blk_drewN ?_ _ | refine blk_drew ?_ | refine blk_alloc ?_ _)); exact BK188.out) hb)
       have n4_ := Aside0.mk (blk_below (g := gb189) (o := .cells #[.int .i64 t183, .int .i64 t184] 74 (0, 0)) (by (with_reducible repeat (first | refine blk_drewN ?_ _ | refine blk_drew ?_ | refine blk_alloc ?_ _)); exact BK189.out) hb)
       have n5_ := Aside0.mk (blk_below (g := gb190) (o := .cells #[.int .i64 t185, .int .i64 t186] 74 (0, 0)) (by (with_reducible repeat (first | refine blk_drewN ?_ _ | refine blk_drew ?_ | refine blk_alloc ?_ _)); exact BK190.out) hb)
       have n6_ := Aside0.mk (below_step (by repeat (first | (with_reducible first | exact HB.out | apply below_alloc | apply pw_below_drewN | apply below_drew1 | refine below_set ?_ GE171.out | refine below_set ?_ GE177.out | refine below_set ?_ GE187.out | refine below_set ?_ GE188.out | refine below_set ?_ GE189.out | refine below_set ?_ GE190.out) | exact HB.out)) hb)
       clear BK171
       clear BK177
       clear BK187
       clear BK188
       clear BK189
       clear BK190
       clear HB
       have BK171 := n0_
       have BK177 := n1_
       have BK187 := n2_
       have BK188 := n3_
       have BK189 := n4_
       have BK190 := n5_
       have HB := n6_
       clear n0_ n1_ n2_ n3_ n4_ n5_ n6_
       (try clear hb)
       (try clear hb2)
       (try clear hk)
       (try clear hi)
       refine hK.out _ _ ⟨(blk_cell BK187.out 0).trans rfl, (blk_cell BK187.out 1).trans rfl, (blk_cell BK177.out 0).trans rfl, (blk_cell BK177.out 1).trans rfl, (blk_cell BK177.out 2).trans rfl, (blk_cell BK177.out 3).trans rfl, (blk_cell BK177.out 4).trans rfl, (blk_cell BK188.out 0).trans rfl, (blk_cell BK188.out 1).trans rfl, (blk_cell BK189.out 0).trans rfl, (blk_cell BK189.out 1).trans rfl, (blk_cell BK190.out 0).trans rfl, (blk_cell BK190.out 1).trans rfl⟩ (fun hHeld => ?_)
       clear hK K
       refine norm_ (a' := ?_) ?_ ?_
       rotate_left
       ·show Act.put _ (some 60) _ = _
        simp only [Act.put, List.setIfInBounds_toArray, List.set_cons_zero, List.set_cons_succ, i64_w, i32_w]
        rfl
       refine pure_ (i := 4) (N := some 61) (v := ?_) (a' := ?_) #[true, true, true, true, true, true, true, false, false, false, false, false, false, false, false, false, false, false, false, false, false, false, false, false, false, false, false, false, false, false, false, false, false, false, false, false, false, false, false, false, false, false, false, false, false, false, false, false, false, false, false] rfl rfl (any_of HT_.out (by kernel_rfl)) (fun _ _ _ h => h) (Or.inl ⟨by rfl, ?_⟩) ?_ ?_
       rotate_left
       ·intro w'
        go_simp
        with_reducible rfl
       rotate_left
       ·simp only [Act.put, List.setIfInBounds_toArray, List.set_cons_zero, List.set_cons_succ, i64_w, i32_w]
        rfl
       refine one_ (i := 7) (N := some 64) #[true, true, true, true, true, true, true, true, false, false, false, false, false, false, false, false, false, false, false, false, false, false, false, false, false, false, false, false, false, false, false, false, false, false, false, false, false, false, false, false, false, false, false, false, false, false, false, false, false, false, false] rfl rfl (one_of HT_.out (by kernel_rfl)) (by decide) (fun K hK => ?_)
       refine goes_ Try.func55 (by kernel_rfl) rfl #[.agg #[.int .i64 t172, .int .i64 t173, .int .i64 t174, .int .i64 t175, .bool t176], .int .i64 2] (by rfl) rfl rfl (by (try simp only [List.map_toArray, List.map_cons, List.map_nil]); first | done | rfl | (simp only [List.length_drop, List.length_take]; rfl)) ?_
       with_reducible refine (fettleref07_Head_At.calls kj7 t172 t173 t174 t175 t176 2 t201 _ A60.out).mono ?_
       rintro e w72 ⟨rfl, hb⟩
       refine ⟨_, rfl, ?_⟩
       have n0_ := Aside0.mk (blk_below (g := gb171) (o := .cells #[.int .i64 a0_0, .int .i64 a0_1, .int .i64 a0_2, .int .i64 a0_3, .bool a0_4] 69 (0, 0)) (by (with_reducible repeat (first | refine blk_drewN ?_ _ | refine blk_drew ?_ | refine blk_alloc ?_ _)); exact BK171.out) hb)
       have n1_ := Aside0.mk (blk_below (g := gb177) (o := .cells #[.int .i64 t172, .int .i64 t173, .int .i64 t174, .int .i64 t175, .bool t176] 70 (0, 0)) (by (with_reducible repeat (first | refine blk_drewN ?_ _ | refine blk_drew ?_ | refine blk_alloc ?_ _)); exact BK177.out) hb)
       have n2_ := Aside0.mk (blk_below (g := gb187) (o := .cells #[.int .i64 t179, .int .i64 t180] 74 (0, 0)) (by (with_reducible repeat (first | refine blk_drewN ?_ _ | refine blk_drew ?_ | refine blk_alloc ?_ _)); exact BK187.out) hb)
       have n3_ := Aside0.mk (blk_below (g := gb188) (o := .cells #[.int .i64 t181, .int .i64 t182] 74 (0, 0)) (by (with_reducible repeat (first | refine blk_drewN ?_ _ | refine blk_drew ?_ | refine blk_alloc ?_ _)); exact BK188.out) hb)
       have n4_ := Aside0.mk (blk_below (g := gb189) (o := .cells #[.int .i64 t183, .int .i64 t184] 74 (0, 0)) (by (with_reducible repeat (first | refine blk_drewN ?_ _ | refine blk_drew ?_ | refine blk_alloc ?_ _)); exact BK189.out) hb)
       have n5_ := Aside0.mk (blk_below (g := gb190) (o := .cells #[.int .i64 t185, .int .i64 t186] 74 (0, 0)) (by (with_reducible repeat (first | refine blk_drewN ?_ _ | refine blk_drew ?_ | refine blk_alloc ?_ _)); exact BK190.out) hb)
       have n6_ := Aside0.mk (below_step (by repeat (first | (with_reducible first | exact HB.out | apply below_alloc | apply pw_below_drewN | apply below_drew1 | refine below_set ?_ GE171.out | refine below_set ?_ GE177.out | refine below_set ?_ GE187.out | refine below_set ?_ GE188.out | refine below_set ?_ GE189.out | refine below_set ?_ GE190.out) | exact HB.out)) hb)
       clear BK171
       clear BK177
       clear BK187
       clear BK188
       clear BK189
       clear BK190
       clear HB
       have BK171 := n0_
       have BK177 := n1_
       have BK187 := n2_
       have BK188 := n3_
       have BK189 := n4_
       have BK190 := n5_
       have HB := n6_
       clear n0_ n1_ n2_ n3_ n4_ n5_ n6_
       (try clear hb)
       (try clear hb2)
       (try clear hk)
       (try clear hi)
       refine hK.out _ _ ⟨(blk_cell BK187.out 0).trans rfl, (blk_cell BK187.out 1).trans rfl, (blk_cell BK177.out 0).trans rfl, (blk_cell BK177.out 1).trans rfl, (blk_cell BK177.out 2).trans rfl, (blk_cell BK177.out 3).trans rfl, (blk_cell BK177.out 4).trans rfl, (blk_cell BK188.out 0).trans rfl, (blk_cell BK188.out 1).trans rfl, (blk_cell BK189.out 0).trans rfl, (blk_cell BK189.out 1).trans rfl, (blk_cell BK190.out 0).trans rfl, (blk_cell BK190.out 1).trans rfl⟩ (fun hHeld => ?_)
       clear hK K
       refine norm_ (a' := ?_) ?_ ?_
       rotate_left
       ·show Act.put _ (some 64) _ = _
        simp only [Act.put, List.setIfInBounds_toArray, List.set_cons_zero, List.set_cons_succ, i64_w, i32_w]
        rfl
       refine pure_ (i := 8) (N := some 65) (v := ?_) (a' := ?_) #[true, true, true, true, true, true, true, true, true, false, false, false, false, false, false, false, false, false, false, false, false, false, false, false, false, false, false, false, false, false, false, false, false, false, false, false, false, false, false, false, false, false, false, false, false, false, false, false, false, false, false] rfl rfl (any_of HT_.out (by kernel_rfl)) (fun _ _ _ h => h) (Or.inl ⟨by rfl, ?_⟩) ?_ ?_
       rotate_left
       ·intro w'
        go_simp
        with_reducible rfl
       rotate_left
       ·simp only [Act.put, List.setIfInBounds_toArray, List.set_cons_zero, List.set_cons_succ, i64_w, i32_w]
        rfl
       refine pure_ (i := 9) (N := some 66) (v := ?_) (a' := ?_) #[true, true, true, true, true, true, true, true, true, true, false, false, false, false, false, false, false, false, false, false, false, false, false, false, false, false, false, false, false, false, false, false, false, false, false, false, false, false, false, false, false, false, false, false, false, false, false, false, false, false, false] rfl rfl (any_of HT_.out (by kernel_rfl)) (fun _ _ _ h => h) (Or.inl ⟨by rfl, ?_⟩) ?_ ?_
       rotate_left
       ·intro w'
        go_simp
        with_reducible rfl
       rotate_left
       ·simp only [Act.put, List.setIfInBounds_toArray, List.set_cons_zero, List.set_cons_succ, i64_w, i32_w]
        rfl
       refine pure_ (i := 10) (N := some 67) (v := ?_) (a' := ?_) #[true, true, true, true, true, true, true, true, true, true, true, false, false, false, false, false, false, false, false, false, false, false, false, false, false, false, false, false, false, false, false, false, false, false, false, false, false, false, false, false, false, false, false, false, false, false, false, false, false, false, false] rfl rfl (any_of HT_.out (by kernel_rfl)) (fun _ _ _ h => h) (Or.inl ⟨by rfl, ?_⟩) ?_ ?_
       rotate_left
       ·intro w'
        go_simp
        with_reducible rfl
       rotate_left
       ·simp only [Act.put, List.setIfInBounds_toArray, List.set_cons_zero, List.set_cons_succ, i64_w, i32_w]
        rfl
       refine pure_ (i := 11) (N := some 68) (v := ?_) (a' := ?_) #[true, true, true, true, true, true, true, true, true, true, true, true, false, false, false, false, false, false, false, false, false, false, false, false, false, false, false, false, false, false, false, false, false, false, false, false, false, false, false, false, false, false, false, false, false, false, false, false, false, false, false] rfl rfl (any_of HT_.out (by kernel_rfl)) (fun _ _ _ h => h) (Or.inl ⟨by rfl, ?_⟩) ?_ ?_
       rotate_left
       ·intro w'
        go_simp
        with_reducible rfl
       rotate_left
       ·simp only [Act.put, List.setIfInBounds_toArray, List.set_cons_zero, List.set_cons_succ, i64_w, i32_w]
        rfl
       refine pure_ (i := 13) (N := some 70) (v := ?_) (a' := ?_) #[true, true, true, true, true, true, true, true, true, true, true, true, false, true, false, false, false, false, false, false, false, false, false, false, false, false, false, false, false, false, false, false, false, false, false, false, false, false, false, false, false, false, false, false, false, false, false, false, false, false, false] rfl rfl (any_of HT_.out (by kernel_rfl)) (fun _ _ _ h => h) (Or.inl ⟨by rfl, ?_⟩) ?_ ?_
       rotate_left
       ·intro w'
        go_simp
        with_reducible rfl
       rotate_left
       ·simp only [Act.put, List.setIfInBounds_toArray, List.set_cons_zero, List.set_cons_succ, i64_w, i32_w]
        rfl
       refine pure_ (i := 17) (N := some 74) (v := ?_) (a' := ?_) #[true, true, true, true, true, true, true, true, true, true, true, true, false, true, false, false, false, true, false, false, false, false, false, false, false, false, false, false, false, false, false, false, false, false, false, false, false, false, false, false, false, false, false, false, false, false, false, false, false, false, false] rfl rfl (any_of HT_.out (by kernel_rfl)) (fun _ _ _ h => h) (Or.inl ⟨by rfl, ?_⟩) ?_ ?_
       rotate_left
       ·intro w'
        go_simp
        with_reducible rfl
       rotate_left
       ·simp only [Act.put, List.setIfInBounds_toArray, List.set_cons_zero, List.set_cons_succ, i64_w, i32_w]
        rfl
       refine take_ (i := 12) (N := some 69) (v := ?_) (a' := ?_) #[true, true, true, true, true, true, true, true, true, true, true, true, true, true, false, false, false, true, false, false, false, false, false, false, false, false, false, false, false, false, false, false, false, false, false, false, false, false, false, false, false, false, false, false, false, false, false, false, false, false, false] rfl rfl (take_ofW HT_.out HW_.out (by kernel_rfl)) (fun _ _ _ h => h) (Or.inl ⟨by rfl, ?_⟩) hHeld ?_ ?_
       rotate_left
       ·rintro w' ⟨s0, s1, s2, s3, s4, s5, s6, s7, s8, s9, s10, s11, s12⟩
        go_simp
        with_reducible rfl
       rotate_left
       ·simp only [Act.put, List.setIfInBounds_toArray, List.set_cons_zero, List.set_cons_succ, i64_w, i32_w]
        rfl
       refine take_ (i := 14) (N := some 71) (v := ?_) (a' := ?_) #[true, true, true, true, true, true, true, true, true, true, true, true, true, true, true, false, false, true, false, false, false, false, false, false, false, false, false, false, false, false, false, false, false, false, false, false, false, false, false, false, false, false, false, false, false, false, false, false, false, false, false] rfl rfl (take_ofW HT_.out HW_.out (by kernel_rfl)) (fun _ _ _ h => h) (Or.inl ⟨by rfl, ?_⟩) hHeld ?_ ?_
       rotate_left
       ·rintro w' ⟨s0, s1, s2, s3, s4, s5, s6, s7, s8, s9, s10, s11, s12⟩
        go_simp
        with_reducible rfl
       rotate_left
       ·simp only [Act.put, List.setIfInBounds_toArray, List.set_cons_zero, List.set_cons_succ, i64_w, i32_w]
        rfl
       refine take_ (i := 18) (N := some 75) (v := ?_) (a' := ?_) #[true, true, true, true, true, true, true, true, true, true, true, true, true, true, true, false, false, true, true, false, false, false, false, false, false, false, false, false, false, false, false, false, false, false, false, false, false, false, false, false, false, false, false, false, false, false, false, false, false, false, false] rfl rfl (take_ofW HT_.out HW_.out (by kernel_rfl)) (fun _ _ _ h => h) (Or.inl ⟨by rfl, ?_⟩) hHeld ?_ ?_
       rotate_left
       ·rintro w' ⟨s0, s1, s2, s3, s4, s5, s6, s7, s8, s9, s10, s11, s12⟩
        go_simp
        with_reducible rfl
       rotate_left
       ·simp only [Act.put, List.setIfInBounds_toArray, List.set_cons_zero, List.set_cons_succ, i64_w, i32_w]
        rfl
       refine one_ (i := 15) (N := some 72) #[true, true, true, true, true, true, true, true, true, true, true, true, true, true, true, true, false, true, true, false, false, false, false, false, false, false, false, false, false, false, false, false, false, false, false, false, false, false, false, false, false, false, false, false, false, false, false, false, false, false, false] rfl rfl (one_of HT_.out (by kernel_rfl)) (by decide) (fun K hK => ?_)
       refine goes_ Try.func55 (by kernel_rfl) rfl #[.agg #[.int .i64 t172, .int .i64 t173, .int .i64 t174, .int .i64 t175, .bool t176], .int .i64 2] (by rfl) rfl rfl (by (try simp only [List.map_toArray, List.map_cons, List.map_nil]); first | done | rfl | (simp only [List.length_drop, List.length_take]; rfl)) ?_
       with_reducible refine (fettleref07_Head_At.calls kj7 t172 t173 t174 t175 t176 2 t202 _ A62.out).mono ?_
       rintro e w73 ⟨rfl, hb⟩
       refine ⟨_, rfl, ?_⟩
       have n0_ := Aside0.mk (blk_below (g := gb171) (o := .cells #[.int .i64 a0_0, .int .i64 a0_1, .int .i64 a0_2, .int .i64 a0_3, .bool a0_4] 69 (0, 0)) (by (with_reducible repeat (first | refine blk_drewN ?_ _ | refine blk_drew ?_ | refine blk_alloc ?_ _)); exact BK171.out) hb)
       have n1_ := Aside0.mk (blk_below (g := gb177) (o := .cells #[.int .i64 t172, .int .i64 t173, .int .i64 t174, .int .i64 t175, .bool t176] 70 (0, 0)) (by (with_reducible repeat (first | refine blk_drewN ?_ _ | refine blk_drew ?_ | refine blk_alloc ?_ _)); exact BK177.out) hb)
       have n2_ := Aside0.mk (blk_below (g := gb187) (o := .cells #[.int .i64 t179, .int .i64 t180] 74 (0, 0)) (by (with_reducible repeat (first | refine blk_drewN ?_ _ | refine blk_drew ?_ | refine blk_alloc ?_ _)); exact BK187.out) hb)
       have n3_ := Aside0.mk (blk_below (g := gb188) (o := .cells #[.int .i64 t181, .int .i64 t182] 74 (0, 0)) (by (with_reducible repeat (first | refine blk_drewN ?_ _ | refine blk_drew ?_ | refine blk_alloc ?_ _)); exact BK188.out) hb)
       have n4_ := Aside0.mk (blk_below (g := gb189) (o := .cells #[.int .i64 t183, .int .i64 t184] 74 (0, 0)) (by (with_reducible repeat (first | refine blk_drewN ?_ _ | refine blk_drew ?_ | refine blk_alloc ?_ _)); exact BK189.out) hb)
       have n5_ := Aside0.mk (blk_below (g := gb190) (o := .cells #[.int .i64 t185, .int .i64 t186] 74 (0, 0)) (by (with_reducible repeat (first | refine blk_drewN ?_ _ | refine blk_drew ?_ | refine blk_alloc ?_ _)); exact BK190.out) hb)
       have n6_ := Aside0.mk (below_step (by repeat (first | (with_reducible first | exact HB.out | apply below_alloc | apply pw_below_drewN | apply below_drew1 | refine below_set ?_ GE171.out | refine below_set ?_ GE177.out | refine below_set ?_ GE187.out | refine below_set ?_ GE188.out | refine below_set ?_ GE189.out | refine below_set ?_ GE190.out) | exact HB.out)) hb)
       clear BK171
       clear BK177
       clear BK187
       clear BK188
       clear BK189
       clear BK190
       clear HB
       have BK171 := n0_
       have BK177 := n1_
       have BK187 := n2_
       have BK188 := n3_
       have BK189 := n4_
       have BK190 := n5_
       have HB := n6_
       clear n0_ n1_ n2_ n3_ n4_ n5_ n6_
       (try clear hb)
       (try clear hb2)
       (try clear hk)
       (try clear hi)
       refine hK.out _ _ ⟨(blk_cell BK187.out 0).trans rfl, (blk_cell BK187.out 1).trans rfl, (blk_cell BK177.out 0).trans rfl, (blk_cell BK177.out 1).trans rfl, (blk_cell BK177.out 2).trans rfl, (blk_cell BK177.out 3).trans rfl, (blk_cell BK177.out 4).trans rfl, (blk_cell BK188.out 0).trans rfl, (blk_cell BK188.out 1).trans rfl, (blk_cell BK189.out 0).trans rfl, (blk_cell BK189.out 1).trans rfl, (blk_cell BK190.out 0).trans rfl, (blk_cell BK190.out 1).trans rfl⟩ (fun hHeld => ?_)
       clear hK K
       refine norm_ (a' := ?_) ?_ ?_
       rotate_left
       ·show Act.put _ (some 72) _ = _
        simp only [Act.put, List.setIfInBounds_toArray, List.set_cons_zero, List.set_cons_succ, i64_w, i32_w]
        rfl
       refine pure_ (i := 16) (N := some 73) (v := ?_) (a' := ?_) #[true, true, true, true, true, true, true, true, true, true, true, true, true, true, true, true, true, true, true, false, false, false, false, false, false, false, false, false, false, false, false, false, false, false, false, false, false, false, false, false, false, false, false, false, false, false, false, false, false, false, false] rfl rfl (any_of HT_.out (by kernel_rfl)) (fun _ _ _ h => h) (Or.inl ⟨by rfl, ?_⟩) ?_ ?_
       rotate_left
       ·intro w'
        go_simp
        with_reducible rfl
       rotate_left
       ·simp only [Act.put, List.setIfInBounds_toArray, List.set_cons_zero, List.set_cons_succ, i64_w, i32_w]
        rfl
       refine one_ (i := 19) (N := some 76) #[true, true, true, true, true, true, true, true, true, true, true, true, true, true, true, true, true, true, true, true, false, false, false, false, false, false, false, false, false, false, false, false, false, false, false, false, false, false, false, false, false, false, false, false, false, false, false, false, false, false, false] rfl rfl (one_of HT_.out (by kernel_rfl)) (by decide) (fun K hK => ?_)
       refine goes_ Try.func55 (by kernel_rfl) rfl #[.agg #[.int .i64 t172, .int .i64 t173, .int .i64 t174, .int .i64 t175, .bool t176], .int .i64 3] (by rfl) rfl rfl (by (try simp only [List.map_toArray, List.map_cons, List.map_nil]); first | done | rfl | (simp only [List.length_drop, List.length_take]; rfl)) ?_
       with_reducible refine (fettleref07_Head_At.calls kj7 t172 t173 t174 t175 t176 3 t203 _ A63.out).mono ?_
       rintro e w74 ⟨rfl, hb⟩
       refine ⟨_, rfl, ?_⟩
       have n0_ := Aside0.mk (blk_below (g := gb171) (o := .cells #[.int .i64 a0_0, .int .i64 a0_1, .int .i64 a0_2, .int .i64 a0_3, .bool a0_4] 69 (0, 0)) (by (with_reducible repeat (first | refine blk_drewN ?_ _ | refine blk_drew ?_ | refine blk_alloc ?_ _)); exact BK171.out) hb)
       have n1_ := Aside0.mk (blk_below (g := gb177) (o := .cells #[.int .i64 t172, .int .i64 t173, .int .i64 t174, .int .i64 t175, .bool t176] 70 (0, 0)) (by (with_reducible repeat (first | refine blk_drewN ?_ _ | refine blk_drew ?_ | refine blk_alloc ?_ _)); exact BK177.out) hb)
       have n2_ := Aside0.mk (blk_below (g := gb187) (o := .cells #[.int .i64 t179, .int .i64 t180] 74 (0, 0)) (by (with_reducible repeat (first | refine blk_drewN ?_ _ | refine blk_drew ?_ | refine blk_alloc ?_ _)); exact BK187.out) hb)
       have n3_ := Aside0.mk (blk_below (g := gb188) (o := .cells #[.int .i64 t181, .int .i64 t182] 74 (0, 0)) (by (with_reducible repeat (first | refine blk_drewN ?_ _ | refine blk_drew ?_ | refine blk_alloc ?_ _)); exact BK188.out) hb)
       have n4_ := Aside0.mk (blk_below (g := gb189) (o := .cells #[.int .i64 t183, .int .i64 t184] 74 (0, 0)) (by (with_reducible repeat (first | refine blk_drewN ?_ _ | refine blk_drew ?_ | refine blk_alloc ?_ _)); exact BK189.out) hb)
       have n5_ := Aside0.mk (blk_below (g := gb190) (o := .cells #[.int .i64 t185, .int .i64 t186] 74 (0, 0)) (by (with_reducible repeat (first | refine blk_drewN ?_ _ | refine blk_drew ?_ | refine blk_alloc ?_ _)); exact BK190.out) hb)
       have n6_ := Aside0.mk (below_step (by repeat (first | (with_reducible first | exact HB.out | apply below_alloc | apply pw_below_drewN | apply below_drew1 | refine below_set ?_ GE171.out | refine below_set ?_ GE177.out | refine below_set ?_ GE187.out | refine below_set ?_ GE188.out | refine below_set ?_ GE189.out | refine below_set ?_ GE190.out) | exact HB.out)) hb)
       clear BK171
       clear BK177
       clear BK187
       clear BK188
       clear BK189
       clear BK190
       clear HB
       have BK171 := n0_
       have BK177 := n1_
       have BK187 := n2_
       have BK188 := n3_
       have BK189 := n4_
       have BK190 := n5_
       have HB := n6_
       clear n0_ n1_ n2_ n3_ n4_ n5_ n6_
       (try clear hb)
       (try clear hb2)
       (try clear hk)
       (try clear hi)
       refine hK.out _ _ ⟨(blk_cell BK187.out 0).trans rfl, (blk_cell BK187.out 1).trans rfl, (blk_cell BK177.out 0).trans rfl, (blk_cell BK177.out 1).trans rfl, (blk_cell BK177.out 2).trans rfl, (blk_cell BK177.out 3).trans rfl, (blk_cell BK177.out 4).trans rfl, (blk_cell BK188.out 0).trans rfl, (blk_cell BK188.out 1).trans rfl, (blk_cell BK189.out 0).trans rfl, (blk_cell BK189.out 1).trans rfl, (blk_cell BK190.out 0).trans rfl, (blk_cell BK190.out 1).trans rfl⟩ (fun hHeld => ?_)
       clear hK K
       refine norm_ (a' := ?_) ?_ ?_
       rotate_left
       ·show Act.put _ (some 76) _ = _
        simp only [Act.put, List.setIfInBounds_toArray, List.set_cons_zero, List.set_cons_succ, i64_w, i32_w]
        rfl
       refine pure_ (i := 20) (N := some 77) (v := ?_) (a' := ?_) #[true, true, true, true, true, true, true, true, true, true, true, true, true, true, true, true, true, true, true, true, true, false, false, false, false, false, false, false, false, false, false, false, false, false, false, false, false, false, false, false, false, false, false, false, false, false, false, false, false, false, false] rfl rfl (any_of HT_.out (by kernel_rfl)) (fun _ _ _ h => h) (Or.inl ⟨by rfl, ?_⟩) ?_ ?_
       rotate_left
       ·intro w'
        go_simp
        with_reducible rfl
       rotate_left
       ·simp only [Act.put, List.setIfInBounds_toArray, List.set_cons_zero, List.set_cons_succ, i64_w, i32_w]
        rfl
       refine pure_ (i := 21) (N := some 78) (v := ?_) (a' := ?_) #[true, true, true, true, true, true, true, true, true, true, true, true, true, true, true, true, true, true, true, true, true, true, false, false, false, false, false, false, false, false, false, false, false, false, false, false, false, false, false, false, false, false, false, false, false, false, false, false, false, false, false] rfl rfl (any_of HT_.out (by kernel_rfl)) (fun _ _ _ h => h) (Or.inl ⟨by rfl, ?_⟩) ?_ ?_
       rotate_left
       ·intro w'
        go_simp
        with_reducible rfl
       rotate_left
       ·simp only [Act.put, List.setIfInBounds_toArray, List.set_cons_zero, List.set_cons_succ, i64_w, i32_w]
        rfl
       refine pure_ (i := 22) (N := some 79) (v := ?_) (a' := ?_) #[true, true, true, true, true, true, true, true, true, true, true, true, true, true, true, true, true, true, true, true, true, true, true, false, false, false, false, false, false, false, false, false, false, false, false, false, false, false, false, false, false, false, false, false, false, false, false, false, false, false, false] rfl rfl (any_of HT_.out (by kernel_rfl)) (fun _ _ _ h => h) (Or.inl ⟨by rfl, ?_⟩) ?_ ?_
       rotate_left
       ·intro w'
        go_simp
        with_reducible rfl
       rotate_left
       ·simp only [Act.put, List.setIfInBounds_toArray, List.set_cons_zero, List.set_cons_succ, i64_w, i32_w]
        rfl
       refine pure_ (i := 23) (N := some 80) (v := ?_) (a' := ?_) #[true, true, true, true, true, true, true, true, true, true, true, true, true, true, true, true, true, true, true, true, true, true, true, true, false, false, false, false, false, false, false, false, false, false, false, false, false, false, false, false, false, false, false, false, false, false, false, false, false, false, false] rfl rfl (any_of HT_.out (by kernel_rfl)) (fun _ _ _ h => h) (Or.inl ⟨by rfl, ?_⟩) ?_ ?_
       rotate_left
       ·intro w'
        go_simp
        with_reducible rfl
       rotate_left
       ·simp only [Act.put, List.setIfInBounds_toArray, List.set_cons_zero, List.set_cons_succ, i64_w, i32_w]
        rfl
       refine pure_ (i := 24) (N := some 81) (v := ?_) (a' := ?_) #[true, true, true, true, true, true, true, true, true, true, true, true, true, true, true, true, true, true, true, true, true, true, true, true, true, false, false, false, false, false, false, false, false, false, false, false, false, false, false, false, false, false, false, false, false, false, false, false, false, false, false] rfl rfl (any_of HT_.out (by kernel_rfl)) (fun _ _ _ h => h) (Or.inl ⟨by rfl, ?_⟩) ?_ ?_
       rotate_left
       ·intro w'
        go_simp
        with_reducible rfl
       rotate_left
       ·simp only [Act.put, List.setIfInBounds_toArray, List.set_cons_zero, List.set_cons_succ, i64_w, i32_w]
        rfl
       refine pure_ (i := 26) (N := some 83) (v := ?_) (a' := ?_) #[true, true, true, true, true, true, true, true, true, true, true, true, true, true, true, true, true, true, true, true, true, true, true, true, true, false, true, false, false, false, false, false, false, false, false, false, false, false, false, false, false, false, false, false, false, false, false, false, false, false, false] rfl rfl (any_of HT_.out (by kernel_rfl)) (fun _ _ _ h => h) (Or.inl ⟨by rfl, ?_⟩) ?_ ?_
       rotate_left
       ·intro w'
        go_simp
        with_reducible rfl
       rotate_left
       ·simp only [Act.put, List.setIfInBounds_toArray, List.set_cons_zero, List.set_cons_succ, i64_w, i32_w]
        rfl
       refine pure_ (i := 30) (N := some 87) (v := ?_) (a' := ?_) #[true, true, true, true, true, true, true, true, true, true, true, true, true, true, true, true, true, true, true, true, true, true, true, true, true, false, true, false, false, false, true, false, false, false, false, false, false, false, false, false, false, false, false, false, false, false, false, false, false, false, false] rfl rfl (any_of HT_.out (by kernel_rfl)) (fun _ _ _ h => h) (Or.inl ⟨by rfl, ?_⟩) ?_ ?_
       rotate_left
       ·intro w'
        go_simp
        with_reducible rfl
       rotate_left
       ·simp only [Act.put, List.setIfInBounds_toArray, List.set_cons_zero, List.set_cons_succ, i64_w, i32_w]
        rfl
       refine take_ (i := 25) (N := some 82) (v := ?_) (a' := ?_) #[true, true, true, true, true, true, true, true, true, true, true, true, true, true, true, true, true, true, true, true, true, true, true, true, true, true, true, false, false, false, true, false, false, false, false, false, false, false, false, false, false, false, false, false, false, false, false, false, false, false, false] rfl rfl (take_ofW HT_.out HW_.out (by kernel_rfl)) (fun _ _ _ h => h) (Or.inl ⟨by rfl, ?_⟩) hHeld ?_ ?_
       rotate_left
       ·rintro w' ⟨s0, s1, s2, s3, s4, s5, s6, s7, s8, s9, s10, s11, s12⟩
        go_simp
        with_reducible rfl
       rotate_left
       ·simp only [Act.put, List.setIfInBounds_toArray, List.set_cons_zero, List.set_cons_succ, i64_w, i32_w]
        rfl
       refine take_ (i := 27) (N := some 84) (v := ?_) (a' := ?_) #[true, true, true, true, true, true, true, true, true, true, true, true, true, true, true, true, true, true, true, true, true, true, true, true, true, true, true, true, false, false, true, false, false, false, false, false, false, false, false, false, false, false, false, false, false, false, false, false, false, false, false] rfl rfl (take_ofW HT_.out HW_.out (by kernel_rfl)) (fun _ _ _ h => h) (Or.inl ⟨by rfl, ?_⟩) hHeld ?_ ?_
       rotate_left
       ·rintro w' ⟨s0, s1, s2, s3, s4, s5, s6, s7, s8, s9, s10, s11, s12⟩
        go_simp
        with_reducible rfl
       rotate_left
       ·simp only [Act.put, List.setIfInBounds_toArray, List.set_cons_zero, List.set_cons_succ, i64_w, i32_w]
        rfl
       refine take_ (i := 31) (N := some 88) (v := ?_) (a' := ?_) #[true, true, true, true, true, true, true, true, true, true, true, true, true, true, true, true, true, true, true, true, true, true, true, true, true, true, true, true, false, false, true, true, false, false, false, false, false, false, false, false, false, false, false, false, false, false, false, false, false, false, false] rfl rfl (take_ofW HT_.out HW_.out (by kernel_rfl)) (fun _ _ _ h => h) (Or.inl ⟨by rfl, ?_⟩) hHeld ?_ ?_
       rotate_left
       ·rintro w' ⟨s0, s1, s2, s3, s4, s5, s6, s7, s8, s9, s10, s11, s12⟩
        go_simp
        with_reducible rfl
       rotate_left
       ·simp only [Act.put, List.setIfInBounds_toArray, List.set_cons_zero, List.set_cons_succ, i64_w, i32_w]
        rfl
       refine one_ (i := 28) (N := some 85) #[true, true, true, true, true, true, true, true, true, true, true, true, true, true, true, true, true, true, true, true, true, true, true, true, true, true, true, true, true, false, true, true, false, false, false, false, false, false, false, false, false, false, false, false, false, false, false, false, false, false, false] rfl rfl (one_of HT_.out (by kernel_rfl)) (by decide) (fun K hK => ?_)
       refine goes_ Try.func55 (by kernel_rfl) rfl #[.agg #[.int .i64 t172, .int .i64 t173, .int .i64 t174, .int .i64 t175, .bool t176], .int .i64 3] (by rfl) rfl rfl (by (try simp only [List.map_toArray, List.map_cons, List.map_nil]); first | done | rfl | (simp only [List.length_drop, List.length_take]; rfl)) ?_
       with_reducible refine (fettleref07_Head_At.calls kj7 t172 t173 t174 t175 t176 3 t204 _ A65.out).mono ?_
       rintro e w75 ⟨rfl, hb⟩
       refine ⟨_, rfl, ?_⟩
       have n0_ := Aside0.mk (blk_below (g := gb171) (o := .cells #[.int .i64 a0_0, .int .i64 a0_1, .int .i64 a0_2, .int .i64 a0_3, .bool a0_4] 69 (0, 0)) (by (with_reducible repeat (first | refine blk_drewN ?_ _ | refine blk_drew ?_ | refine blk_alloc ?_ _)); exact BK171.out) hb)
       have n1_ := Aside0.mk (blk_below (g := gb177) (o := .cells #[.int .i64 t172, .int .i64 t173, .int .i64 t174, .int .i64 t175, .bool t176] 70 (0, 0)) (by (with_reducible repeat (first | refine blk_drewN ?_ _ | refine blk_drew ?_ | refine blk_alloc ?_ _)); exact BK177.out) hb)
       have n2_ := Aside0.mk (blk_below (g := gb187) (o := .cells #[.int .i64 t179, .int .i64 t180] 74 (0, 0)) (by (with_reducible repeat (first | refine blk_drewN ?_ _ | refine blk_drew ?_ | refine blk_alloc ?_ _)); exact BK187.out) hb)
       have n3_ := Aside0.mk (blk_below (g := gb188) (o := .cells #[.int .i64 t181, .int .i64 t182] 74 (0, 0)) (by (with_reducible repeat (first | refine blk_drewN ?_ _ | refine blk_drew ?_ | refine blk_alloc ?_ _)); exact BK188.out) hb)
       have n4_ := Aside0.mk (blk_below (g := gb189) (o := .cells #[.int .i64 t183, .int .i64 t184] 74 (0, 0)) (by (with_reducible repeat (first | refine blk_drewN ?_ _ | refine blk_drew ?_ | refine blk_alloc ?_ _)); exact BK189.out) hb)
       have n5_ := Aside0.mk (blk_below (g := gb190) (o := .cells #[.int .i64 t185, .int .i64 t186] 74 (0, 0)) (by (with_reducible repeat (first | refine blk_drewN ?_ _ | refine blk_drew ?_ | refine blk_alloc ?_ _)); exact BK190.out) hb)
       have n6_ := Aside0.mk (below_step (by repeat (first | (with_reducible first | exact HB.out | apply below_alloc | apply pw_below_drewN | apply below_drew1 | refine below_set ?_ GE171.out | refine below_set ?_ GE177.out | refine below_set ?_ GE187.out | refine below_set ?_ GE188.out | refine below_set ?_ GE189.out | refine below_set ?_ GE190.out) | exact HB.out)) hb)
       clear BK171
       clear BK177
       clear BK187
       clear BK188
       clear BK189
       clear BK190
       clear HB
       have BK171 := n0_
       have BK177 := n1_
       have BK187 := n2_
       have BK188 := n3_
       have BK189 := n4_
       have BK190 := n5_
       have HB := n6_
       clear n0_ n1_ n2_ n3_ n4_ n5_ n6_
       (try clear hb)
       (try clear hb2)
       (try clear hk)
       (try clear hi)
       refine hK.out _ _ ⟨(blk_cell BK187.out 0).trans rfl, (blk_cell BK187.out 1).trans rfl, (blk_cell BK177.out 0).trans rfl, (blk_cell BK177.out 1).trans rfl, (blk_cell BK177.out 2).trans rfl, (blk_cell BK177.out 3).trans rfl, (blk_cell BK177.out 4).trans rfl, (blk_cell BK188.out 0).trans rfl, (blk_cell BK188.out 1).trans rfl, (blk_cell BK189.out 0).trans rfl, (blk_cell BK189.out 1).trans rfl, (blk_cell BK190.out 0).trans rfl, (blk_cell BK190.out 1).trans rfl⟩ (fun hHeld => ?_)
       clear hK K
       refine norm_ (a' := ?_) ?_ ?_
       rotate_left
       ·show Act.put _ (some 85) _ = _
        simp only [Act.put, List.setIfInBounds_toArray, List.set_cons_zero, List.set_cons_succ, i64_w, i32_w]
        rfl
       refine pure_ (i := 29) (N := some 86) (v := ?_) (a' := ?_) #[true, true, true, true, true, true, true, true, true, true, true, true, true, true, true, true, true, true, true, true, true, true, true, true, true, true, true, true, true, true, true, true, false, false, false, false, false, false, false, false, false, false, false, false, false, false, false, false, false, false, false] rfl rfl (any_of HT_.out (by kernel_rfl)) (fun _ _ _ h => h) (Or.inl ⟨by rfl, ?_⟩) ?_ ?_
       rotate_left
       ·intro w'
        go_simp
        with_reducible rfl
       rotate_left
       ·simp only [Act.put, List.setIfInBounds_toArray, List.set_cons_zero, List.set_cons_succ, i64_w, i32_w]
        rfl
       refine one_ (i := 32) (N := some 89) #[true, true, true, true, true, true, true, true, true, true, true, true, true, true, true, true, true, true, true, true, true, true, true, true, true, true, true, true, true, true, true, true, true, false, false, false, false, false, false, false, false, false, false, false, false, false, false, false, false, false, false] rfl rfl (one_of HT_.out (by kernel_rfl)) (by decide) (fun K hK => ?_)
       refine goes_ Try.func55 (by kernel_rfl) rfl #[.agg #[.int .i64 t172, .int .i64 t173, .int .i64 t174, .int .i64 t175, .bool t176], .int .i64 4] (by rfl) rfl rfl (by (try simp only [List.map_toArray, List.map_cons, List.map_nil]); first | done | rfl | (simp only [List.length_drop, List.length_take]; rfl)) ?_
       with_reducible refine (fettleref07_Head_At.calls kj7 t172 t173 t174 t175 t176 4 t205 _ A66.out).mono ?_
       rintro e w76 ⟨rfl, hb⟩
       refine ⟨_, rfl, ?_⟩
       have n0_ := Aside0.mk (blk_below (g := gb171) (o := .cells #[.int .i64 a0_0, .int .i64 a0_1, .int .i64 a0_2, .int .i64 a0_3, .bool a0_4] 69 (0, 0)) (by (with_reducible repeat (first | refine blk_drewN ?_ _ | refine blk_drew ?_ | refine blk_alloc ?_ _)); exact BK171.out) hb)
       have n1_ := Aside0.mk (blk_below (g := gb177) (o := .cells #[.int .i64 t172, .int .i64 t173, .int .i64 t174, .int .i64 t175, .bool t176] 70 (0, 0)) (by (with_reducible repeat (first | refine blk_drewN ?_ _ | refine blk_drew ?_ | refine blk_alloc ?_ _)); exact BK177.out) hb)
       have n2_ := Aside0.mk (blk_below (g := gb187) (o := .cells #[.int .i64 t179, .int .i64 t180] 74 (0, 0)) (by (with_reducible repeat (first | refine blk_drewN ?_ _ | refine blk_drew ?_ | refine blk_alloc ?_ _)); exact BK187.out) hb)
       have n3_ := Aside0.mk (blk_below (g := gb188) (o := .cells #[.int .i64 t181, .int .i64 t182] 74 (0, 0)) (by (with_reducible repeat (first | refine blk_drewN ?_ _ | refine blk_drew ?_ | refine blk_alloc ?_ _)); exact BK188.out) hb)
       have n4_ := Aside0.mk (blk_below (g := gb189) (o := .cells #[.int .i64 t183, .int .i64 t184] 74 (0, 0)) (by (with_reducible repeat (first | refine blk_drewN ?_ _ | refine blk_drew ?_ | refine blk_alloc ?_ _)); exact BK189.out) hb)
       have n5_ := Aside0.mk (blk_below (g := gb190) (o := .cells #[.int .i64 t185, .int .i64 t186] 74 (0, 0)) (by (with_reducible repeat (first | refine blk_drewN ?_ _ | refine blk_drew ?_ | refine blk_alloc ?_ _)); exact BK190.out) hb)
       have n6_ := Aside0.mk (below_step (by repeat (first | (with_reducible first | exact HB.out | apply below_alloc | apply pw_below_drewN | apply below_drew1 | refine below_set ?_ GE171.out | refine below_set ?_ GE177.out | refine below_set ?_ GE187.out | refine below_set ?_ GE188.out | refine below_set ?_ GE189.out | refine below_set ?_ GE190.out) | exact HB.out)) hb)
       clear BK171
       clear BK177
       clear BK187
       clear BK188
       clear BK189
       clear BK190
       clear HB
       have BK171 := n0_
       have BK177 := n1_
       have BK187 := n2_
       have BK188 := n3_
       have BK189 := n4_
       have BK190 := n5_
       have HB := n6_
       clear n0_ n1_ n2_ n3_ n4_ n5_ n6_
       (try clear hb)
       (try clear hb2)
       (try clear hk)
       (try clear hi)
       refine hK.out _ _ ⟨(blk_cell BK187.out 0).trans rfl, (blk_cell BK187.out 1).trans rfl, (blk_cell BK177.out 0).trans rfl, (blk_cell BK177.out 1).trans rfl, (blk_cell BK177.out 2).trans rfl, (blk_cell BK177.out 3).trans rfl, (blk_cell BK177.out 4).trans rfl, (blk_cell BK188.out 0).trans rfl, (blk_cell BK188.out 1).trans rfl, (blk_cell BK189.out 0).trans rfl, (blk_cell BK189.out 1).trans rfl, (blk_cell BK190.out 0).trans rfl, (blk_cell BK190.out 1).trans rfl⟩ (fun hHeld => ?_)
       clear hK K
       refine norm_ (a' := ?_) ?_ ?_
       rotate_left
       ·show Act.put _ (some 89) _ = _
        simp only [Act.put, List.setIfInBounds_toArray, List.set_cons_zero, List.set_cons_succ, i64_w, i32_w]
        rfl
       refine pure_ (i := 33) (N := some 90) (v := ?_) (a' := ?_) #[true, true, true, true, true, true, true, true, true, true, true, true, true, true, true, true, true, true, true, true, true, true, true, true, true, true, true, true, true, true, true, true, true, true, false, false, false, false, false, false, false, false, false, false, false, false, false, false, false, false, false] rfl rfl (any_of HT_.out (by kernel_rfl)) (fun _ _ _ h => h) (Or.inl ⟨by rfl, ?_⟩) ?_ ?_
       rotate_left
       ·intro w'
        go_simp
        with_reducible rfl
       rotate_left
       ·simp only [Act.put, List.setIfInBounds_toArray, List.set_cons_zero, List.set_cons_succ, i64_w, i32_w]
        rfl
       refine pure_ (i := 34) (N := some 91) (v := ?_) (a' := ?_) #[true, true, true, true, true, true, true, true, true, true, true, true, true, true, true, true, true, true, true, true, true, true, true, true, true, true, true, true, true, true, true, true, true, true, true, false, false, false, false, false, false, false, false, false, false, false, false, false, false, false, false] rfl rfl (any_of HT_.out (by kernel_rfl)) (fun _ _ _ h => h) (Or.inl ⟨by rfl, ?_⟩) ?_ ?_
       rotate_left
       ·intro w'
        go_simp
        with_reducible rfl
       rotate_left
       ·simp only [Act.put, List.setIfInBounds_toArray, List.set_cons_zero, List.set_cons_succ, i64_w, i32_w]
        rfl
       refine pure_ (i := 35) (N := some 92) (v := ?_) (a' := ?_) #[true, true, true, true, true, true, true, true, true, true, true, true, true, true, true, true, true, true, true, true, true, true, true, true, true, true, true, true, true, true, true, true, true, true, true, true, false, false, false, false, false, false, false, false, false, false, false, false, false, false, false] rfl rfl (any_of HT_.out (by kernel_rfl)) (fun _ _ _ h => h) (Or.inl ⟨by rfl, ?_⟩) ?_ ?_
       rotate_left
       ·intro w'
        go_simp
        with_reducible rfl
       rotate_left
       ·simp only [Act.put, List.setIfInBounds_toArray, List.set_cons_zero, List.set_cons_succ, i64_w, i32_w]
        rfl
       refine pure_ (i := 36) (N := some 93) (v := ?_) (a' := ?_) #[true, true, true, true, true, true, true, true, true, true, true, true, true, true, true, true, true, true, true, true, true, true, true, true, true, true, true, true, true, true, true, true, true, true, true, true, true, false, false, false, false, false, false, false, false, false, false, false, false, false, false] rfl rfl (any_of HT_.out (by kernel_rfl)) (fun _ _ _ h => h) (Or.inl ⟨by rfl, ?_⟩) ?_ ?_
       rotate_left
       ·intro w'
        go_simp
        with_reducible rfl
       rotate_left
       ·simp only [Act.put, List.setIfInBounds_toArray, List.set_cons_zero, List.set_cons_succ, i64_w, i32_w]
        rfl
       refine pure_ (i := 37) (N := some 94) (v := ?_) (a' := ?_) #[true, true, true, true, true, true, true, true, true, true, true, true, true, true, true, true, true, true, true, true, true, true, true, true, true, true, true, true, true, true, true, true, true, true, true, true, true, true, false, false, false, false, false, false, false, false, false, false, false, false, false] rfl rfl (any_of HT_.out (by kernel_rfl)) (fun _ _ _ h => h) (Or.inl ⟨by rfl, ?_⟩) ?_ ?_
       rotate_left
       ·intro w'
        go_simp
        with_reducible rfl
       rotate_left
       ·simp only [Act.put, List.setIfInBounds_toArray, List.set_cons_zero, List.set_cons_succ, i64_w, i32_w]
        rfl
       refine pure_ (i := 39) (N := some 96) (v := ?_) (a' := ?_) #[true, true, true, true, true, true, true, true, true, true, true, true, true, true, true, true, true, true, true, true, true, true, true, true, true, true, true, true, true, true, true, true, true, true, true, true, true, true, false, true, false, false, false, false, false, false, false, false, false, false, false] rfl rfl (any_of HT_.out (by kernel_rfl)) (fun _ _ _ h => h) (Or.inl ⟨by rfl, ?_⟩) ?_ ?_
       rotate_left
       ·intro w'
        go_simp
        with_reducible rfl
       rotate_left
       ·simp only [Act.put, List.setIfInBounds_toArray, List.set_cons_zero, List.set_cons_succ, i64_w, i32_w]
        rfl
       refine pure_ (i := 43) (N := some 100) (v := ?_) (a' := ?_) #[true, true, true, true, true, true, true, true, true, true, true, true, true, true, true, true, true, true, true, true, true, true, true, true, true, true, true, true, true, true, true, true, true, true, true, true, true, true, false, true, false, false, false, true, false, false, false, false, false, false, false] rfl rfl (any_of HT_.out (by kernel_rfl)) (fun _ _ _ h => h) (Or.inl ⟨by rfl, ?_⟩) ?_ ?_
       rotate_left
       ·intro w'
        go_simp
        with_reducible rfl
       rotate_left
       ·simp only [Act.put, List.setIfInBounds_toArray, List.set_cons_zero, List.set_cons_succ, i64_w, i32_w]
        rfl
       refine take_ (i := 38) (N := some 95) (v := ?_) (a' := ?_) #[true, true, true, true, true, true, true, true, true, true, true, true, true, true, true, true, true, true, true, true, true, true, true, true, true, true, true, true, true, true, true, true, true, true, true, true, true, true, true, true, false, false, false, true, false, false, false, false, false, false, false] rfl rfl (take_ofW HT_.out HW_.out (by kernel_rfl)) (fun _ _ _ h => h) (Or.inl ⟨by rfl, ?_⟩) hHeld ?_ ?_
       rotate_left
       ·rintro w' ⟨s0, s1, s2, s3, s4, s5, s6, s7, s8, s9, s10, s11, s12⟩
        go_simp
        with_reducible rfl
       rotate_left
       ·simp only [Act.put, List.setIfInBounds_toArray, List.set_cons_zero, List.set_cons_succ, i64_w, i32_w]
        rfl
       refine take_ (i := 40) (N := some 97) (v := ?_) (a' := ?_) #[true, true, true, true, true, true, true, true, true, true, true, true, true, true, true, true, true, true, true, true, true, true, true, true, true, true, true, true, true, true, true, true, true, true, true, true, true, true, true, true, true, false, false, true, false, false, false, false, false, false, false] rfl rfl (take_ofW HT_.out HW_.out (by kernel_rfl)) (fun _ _ _ h => h) (Or.inl ⟨by rfl, ?_⟩) hHeld ?_ ?_
       rotate_left
       ·rintro w' ⟨s0, s1, s2, s3, s4, s5, s6, s7, s8, s9, s10, s11, s12⟩
        go_simp
        with_reducible rfl
       rotate_left
       ·simp only [Act.put, List.setIfInBounds_toArray, List.set_cons_zero, List.set_cons_succ, i64_w, i32_w]
        rfl
       refine take_ (i := 44) (N := some 101) (v := ?_) (a' := ?_) #[true, true, true, true, true, true, true, true, true, true, true, true, true, true, true, true, true, true, true, true, true, true, true, true, true, true, true, true, true, true, true, true, true, true, true, true, true, true, true, true, true, false, false, true, true, false, false, false, false, false, false] rfl rfl (take_ofW HT_.out HW_.out (by kernel_rfl)) (fun _ _ _ h => h) (Or.inl ⟨by rfl, ?_⟩) hHeld ?_ ?_
       rotate_left
       ·rintro w' ⟨s0, s1, s2, s3, s4, s5, s6, s7, s8, s9, s10, s11, s12⟩
        go_simp
        with_reducible rfl
       rotate_left
       ·simp only [Act.put, List.setIfInBounds_toArray, List.set_cons_zero, List.set_cons_succ, i64_w, i32_w]
        rfl
       refine one_ (i := 41) (N := some 98) #[true, true, true, true, true, true, true, true, true, true, true, true, true, true, true, true, true, true, true, true, true, true, true, true, true, true, true, true, true, true, true, true, true, true, true, true, true, true, true, true, true, true, false, true, true, false, false, false, false, false, false] rfl rfl (one_of HT_.out (by kernel_rfl)) (by decide) (fun K hK => ?_)
       refine goes_ Try.func55 (by kernel_rfl) rfl #[.agg #[.int .i64 t172, .int .i64 t173, .int .i64 t174, .int .i64 t175, .bool t176], .int .i64 4] (by rfl) rfl rfl (by (try simp only [List.map_toArray, List.map_cons, List.map_nil]); first | done | rfl | (simp only [List.length_drop, List.length_take]; rfl)) ?_
       with_reducible refine (fettleref07_Head_At.calls kj7 t172 t173 t174 t175 t176 4 t206 _ A68.out).mono ?_
       rintro e w77 ⟨rfl, hb⟩
       refine ⟨_, rfl, ?_⟩
       have n0_ := Aside0.mk (blk_below (g := gb171) (o := .cells #[.int .i64 a0_0, .int .i64 a0_1, .int .i64 a0_2, .int .i64 a0_3, .bool a0_4] 69 (0, 0)) (by (with_reducible repeat (first | refine blk_drewN ?_ _ | refine blk_drew ?_ | refine blk_alloc ?_ _)); exact BK171.out) hb)
       have n1_ := Aside0.mk (blk_below (g := gb177) (o := .cells #[.int .i64 t172, .int .i64 t173, .int .i64 t174, .int .i64 t175, .bool t176] 70 (0, 0)) (by (with_reducible repeat (first | refine blk_drewN ?_ _ | refine blk_drew ?_ | refine blk_alloc ?_ _)); exact BK177.out) hb)
       have n2_ := Aside0.mk (blk_below (g := gb187) (o := .cells #[.int .i64 t179, .int .i64 t180] 74 (0, 0)) (by (with_reducible repeat (first | refine blk_drewN ?_ _ | refine blk_drew ?_ | refine blk_alloc ?_ _)); exact BK187.out) hb)
       have n3_ := Aside0.mk (blk_below (g := gb188) (o := .cells #[.int .i64 t181, .int .i64 t182] 74 (0, 0)) (by (with_reducible repeat (first | refine blk_drewN ?_ _ | refine blk_drew ?_ | refine blk_alloc ?_ _)); exact BK188.out) hb)
       have n4_ := Aside0.mk (blk_below (g := gb189) (o := .cells #[.int .i64 t183, .int .i64 t184] 74 (0, 0)) (by (with_reducible repeat (first | refine blk_drewN ?_ _ | refine blk_drew ?_ | refine blk_alloc ?_ _)); exact BK189.out) hb)
       have n5_ := Aside0.mk (blk_below (g := gb190) (o := .cells #[.int .i64 t185, .int .i64 t186] 74 (0, 0)) (by (with_reducible repeat (first | refine blk_drewN ?_ _ | refine blk_drew ?_ | refine blk_alloc ?_ _)); exact BK190.out) hb)
       have n6_ := Aside0.mk (below_step (by repeat (first | (with_reducible first | exact HB.out | apply below_alloc | apply pw_below_drewN | apply below_drew1 | refine below_set ?_ GE171.out | refine below_set ?_ GE177.out | refine below_set ?_ GE187.out | refine below_set ?_ GE188.out | refine below_set ?_ GE189.out | refine below_set ?_ GE190.out) | exact HB.out)) hb)
       clear BK171
       clear BK177
       clear BK187
       clear BK188
       clear BK189
       clear BK190
       clear HB
       have BK171 := n0_
       have BK177 := n1_
       have BK187 := n2_
       have BK188 := n3_
       have BK189 := n4_
       have BK190 := n5_
       have HB := n6_
       clear n0_ n1_ n2_ n3_ n4_ n5_ n6_
       (try clear hb)
       (try clear hb2)
       (try clear hk)
       (try clear hi)
       refine hK.out _ _ ⟨(blk_cell BK187.out 0).trans rfl, (blk_cell BK187.out 1).trans rfl, (blk_cell BK177.out 0).trans rfl, (blk_cell BK177.out 1).trans rfl, (blk_cell BK177.out 2).trans rfl, (blk_cell BK177.out 3).trans rfl, (blk_cell BK177.out 4).trans rfl, (blk_cell BK188.out 0).trans rfl, (blk_cell BK188.out 1).trans rfl, (blk_cell BK189.out 0).trans rfl, (blk_cell BK189.out 1).trans rfl, (blk_cell BK190.out 0).trans rfl, (blk_cell BK190.out 1).trans rfl⟩ (fun hHeld => ?_)
       clear hK K
       refine norm_ (a' := ?_) ?_ ?_
       rotate_left
       ·show Act.put _ (some 98) _ = _
        simp only [Act.put, List.setIfInBounds_toArray, List.set_cons_zero, List.set_cons_succ, i64_w, i32_w]
        rfl
       refine pure_ (i := 42) (N := some 99) (v := ?_) (a' := ?_) #[true, true, true, true, true, true, true, true, true, true, true, true, true, true, true, true, true, true, true, true, true, true, true, true, true, true, true, true, true, true, true, true, true, true, true, true, true, true, true, true, true, true, true, true, true, false, false, false, false, false, false] rfl rfl (any_of HT_.out (by kernel_rfl)) (fun _ _ _ h => h) (Or.inl ⟨by rfl, ?_⟩) ?_ ?_
       rotate_left
       ·intro w'
        go_simp
        with_reducible rfl
       rotate_left
       ·simp only [Act.put, List.setIfInBounds_toArray, List.set_cons_zero, List.set_cons_succ, i64_w, i32_w]
        rfl
       refine one_ (i := 45) (N := some 102) #[true, true, true, true, true, true, true, true, true, true, true, true, true, true, true, true, true, true, true, true, true, true, true, true, true, true, true, true, true, true, true, true, true, true, true, true, true, true, true, true, true, true, true, true, true, true, false, false, false, false, false] rfl rfl (one_of HT_.out (by kernel_rfl)) (by decide) (fun K hK => ?_)
       refine goes_ Try.func55 (by kernel_rfl) rfl #[.agg #[.int .i64 t172, .int .i64 t173, .int .i64 t174, .int .i64 t175, .bool t176], .int .i64 5] (by rfl) rfl rfl (by (try simp only [List.map_toArray, List.map_cons, List.map_nil]); first | done | rfl | (simp only [List.length_drop, List.length_take]; rfl)) ?_
       with_reducible refine (fettleref07_Head_At.calls kj7 t172 t173 t174 t175 t176 5 t207 _ A69.out).mono ?_
       rintro e w78 ⟨rfl, hb⟩
       refine ⟨_, rfl, ?_⟩
       have n0_ := Aside0.mk (blk_below (g := gb171) (o := .cells #[.int .i64 a0_0, .int .i64 a0_1, .int .i64 a0_2, .int .i64 a0_3, .bool a0_4] 69 (0, 0)) (by (with_reducible repeat (first | refine blk_drewN ?_ _ | refine blk_drew ?_ | refine blk_alloc ?_ _)); exact BK171.out) hb)
       have n1_ := Aside0.mk (blk_below (g := gb177) (o := .cells #[.int .i64 t172, .int .i64 t173, .int .i64 t174, .int .i64 t175, .bool t176] 70 (0, 0)) (by (with_reducible repeat (first | refine blk_drewN ?_ _ | refine blk_drew ?_ | refine blk_alloc ?_ _)); exact BK177.out) hb)
       have n2_ := Aside0.mk (blk_below (g := gb187) (o := .cells #[.int .i64 t179, .int .i64 t180] 74 (0, 0)) (by (with_reducible repeat (first | refine blk_drewN ?_ _ | refine blk_drew ?_ | refine blk_alloc ?_ _)); exact BK187.out) hb)
       have n3_ := Aside0.mk (blk_below (g := gb188) (o := .cells #[.int .i64 t181, .int .i64 t182] 74 (0, 0)) (by (with_reducible repeat (first | refine blk_drewN ?_ _ | refine blk_drew ?_ | refine blk_alloc ?_ _)); exact BK188.out) hb)
       have n4_ := Aside0.mk (blk_below (g := gb189) (o := .cells #[.int .i64 t183, .int .i64 t184] 74 (0, 0)) (by (with_reducible repeat (first | refine blk_drewN ?_ _ | refine blk_drew ?_ | refine blk_alloc ?_ _)); exact BK189.out) hb)
       have n5_ := Aside0.mk (blk_below (g := gb190) (o := .cells #[.int .i64 t185, .int .i64 t186] 74 (0, 0)) (by (with_reducible repeat (first | refine blk_drewN ?_ _ | refine blk_drew ?_ | refine blk_alloc ?_ _)); exact BK190.out) hb)
       have n6_ := Aside0.mk (below_step (by repeat (first | (with_reducible first | exact HB.out | apply below_alloc | apply pw_below_drewN | apply below_drew1 | refine below_set ?_ GE171.out | refine below_set ?_ GE177.out | refine below_set ?_ GE187.out | refine below_set ?_ GE188.out | refine below_set ?_ GE189.out | refine below_set ?_ GE190.out) | exact HB.out)) hb)
       clear BK171
       clear BK177
       clear BK187
       clear BK188
       clear BK189
       clear BK190
       clear HB
       have BK171 := n0_
       have BK177 := n1_
       have BK187 := n2_
       have BK188 := n3_
       have BK189 := n4_
       have BK190 := n5_
       have HB := n6_
       clear n0_ n1_ n2_ n3_ n4_ n5_ n6_
       (try clear hb)
       (try clear hb2)
       (try clear hk)
       (try clear hi)
       refine hK.out _ _ ⟨(blk_cell BK187.out 0).trans rfl, (blk_cell BK187.out 1).trans rfl, (blk_cell BK177.out 0).trans rfl, (blk_cell BK177.out 1).trans rfl, (blk_cell BK177.out 2).trans rfl, (blk_cell BK177.out 3).trans rfl, (blk_cell BK177.out 4).trans rfl, (blk_cell BK188.out 0).trans rfl, (blk_cell BK188.out 1).trans rfl, (blk_cell BK189.out 0).trans rfl, (blk_cell BK189.out 1).trans rfl, (blk_cell BK190.out 0).trans rfl, (blk_cell BK190.out 1).trans rfl⟩ (fun hHeld => ?_)
       clear hK K
       refine norm_ (a' := ?_) ?_ ?_
       rotate_left
       ·show Act.put _ (some 102) _ = _
        simp only [Act.put, List.setIfInBounds_toArray, List.set_cons_zero, List.set_cons_succ, i64_w, i32_w]
        rfl
       refine pure_ (i := 46) (N := some 103) (v := ?_) (a' := ?_) #[true, true, true, true, true, true, true, true, true, true, true, true, true, true, true, true, true, true, true, true, true, true, true, true, true, true, true, true, true, true, true, true, true, true, true, true, true, true, true, true, true, true, true, true, true, true, true, false, false, false, false] rfl rfl (any_of HT_.out (by kernel_rfl)) (fun _ _ _ h => h) (Or.inl ⟨by rfl, ?_⟩) ?_ ?_
       rotate_left
       ·intro w'
        go_simp
        with_reducible rfl
       rotate_left
       ·simp only [Act.put, List.setIfInBounds_toArray, List.set_cons_zero, List.set_cons_succ, i64_w, i32_w]
        rfl
       refine pure_ (i := 47) (N := some 104) (v := ?_) (a' := ?_) #[true, true, true, true, true, true, true, true, true, true, true, true, true, true, true, true, true, true, true, true, true, true, true, true, true, true, true, true, true, true, true, true, true, true, true, true, true, true, true, true, true, true, true, true, true, true, true, true, false, false, false] rfl rfl (any_of HT_.out (by kernel_rfl)) (fun _ _ _ h => h) (Or.inl ⟨by rfl, ?_⟩) ?_ ?_
       rotate_left
       ·intro w'
        go_simp
        with_reducible rfl
       rotate_left
       ·simp only [Act.put, List.setIfInBounds_toArray, List.set_cons_zero, List.set_cons_succ, i64_w, i32_w]
        rfl
       refine pure_ (i := 48) (N := some 105) (v := ?_) (a' := ?_) #[true, true, true, true, true, true, true, true, true, true, true, true, true, true, true, true, true, true, true, true, true, true, true, true, true, true, true, true, true, true, true, true, true, true, true, true, true, true, true, true, true, true, true, true, true, true, true, true, true, false, false] rfl rfl (any_of HT_.out (by kernel_rfl)) (fun _ _ _ h => h) (Or.inl ⟨by rfl, ?_⟩) ?_ ?_
       rotate_left
       ·intro w'
        go_simp
        with_reducible rfl
       rotate_left
       ·simp only [Act.put, List.setIfInBounds_toArray, List.set_cons_zero, List.set_cons_succ, i64_w, i32_w]
        rfl
       refine pure_ (i := 49) (N := some 106) (v := ?_) (a' := ?_) #[true, true, true, true, true, true, true, true, true, true, true, true, true, true, true, true, true, true, true, true, true, true, true, true, true, true, true, true, true, true, true, true, true, true, true, true, true, true, true, true, true, true, true, true, true, true, true, true, true, true, false] rfl rfl (any_of HT_.out (by kernel_rfl)) (fun _ _ _ h => h) (Or.inl ⟨by rfl, ?_⟩) ?_ ?_
       rotate_left
       ·intro w'
        go_simp
        with_reducible rfl
       rotate_left
       ·simp only [Act.put, List.setIfInBounds_toArray, List.set_cons_zero, List.set_cons_succ, i64_w, i32_w]
        rfl
       refine pure_ (i := 50) (N := some 2) (v := ?_) (a' := ?_) #[true, true, true, true, true, true, true, true, true, true, true, true, true, true, true, true, true, true, true, true, true, true, true, true, true, true, true, true, true, true, true, true, true, true, true, true, true, true, true, true, true, true, true, true, true, true, true, true, true, true, true] rfl rfl (any_of HT_.out (by kernel_rfl)) (fun _ _ _ h => h) (Or.inl ⟨by rfl, ?_⟩) ?_ ?_
       rotate_left
       ·intro w'
        go_simp
        with_reducible rfl
       rotate_left
       ·simp only [Act.put, List.setIfInBounds_toArray, List.set_cons_zero, List.set_cons_succ, i64_w, i32_w]
        rfl
       refine done_ (done_of HT_.out (by kernel_rfl)) ?_
       try go_wp2
       go_ret
       exact ⟨by first | rfl | (simp [errW_none, errW_some] <;> rfl) | (simp [*, errW_none, errW_some] <;> rfl), by repeat (first | (with_reducible first | exact HB.out | apply below_alloc | apply pw_below_drewN | apply below_drew1 | refine below_set ?_ GE171.out | refine below_set ?_ GE177.out | refine below_set ?_ GE187.out | refine below_set ?_ GE188.out | refine below_set ?_ GE189.out | refine below_set ?_ GE190.out) | exact HB.out)⟩
      ·rw [if_neg c67] at H
       exact absurd H (by simp)
     ·rw [if_neg c64] at H
      exact absurd H (by simp)
    ·rw [if_neg c61] at H
     exact absurd H (by simp)

/-- THE ONE PURE STATEMENT of fettlelaw07_HeaderPlaces: yours. -/
def fettlelaw07_HeaderPlaces.Pure : Prop := ∀ (a0_0 : Int) (a0_1 : Int) (a0_2 : Int) (a0_3 : Int) (a0_4 : Bool), (Lit.int .i64 a0_0).wf = true → (Lit.int .i64 a0_1).wf = true → (Lit.int .i64 a0_2).wf = true → (Lit.int .i64 a0_3).wf = true → ∃ k, fettlelaw07_HeaderPlaces.f k a0_0 a0_1 a0_2 a0_3 a0_4 = some true

end Go.Proofs.Ytjhijdkliepkpaa.PPlc
