/- PathFails: for every input the law returns true, and its arguments read as before: the row, out of the walk; no condition. -/
import Derived.Test.YtblooffiggciiaaZPathFails2
import Derived.Test.YtblooffiggciiaaWWords
import Derived.Test.YtblooffiggciiaaWArr
import Derived.ProofKit
import Derived.OpenShut
import Derived.Deep.Slices
import Derived.ChangeArms
import Derived.Test.YtblooffiggciiaaRows
import Derived.WalkKit
import Derived.ShutString
import Derived.ChangeOld
import Derived.Below
import Derived.SizedLaws
import Derived.Carry
/- QPathFails -/
namespace Go.Proofs.Ytblooffiggciiaa.PAll
open Go.RowKit Go.Proofs.YtblooffiggciiaaW.PrintWords Go.Proofs.YtblooffiggciiaaW.PrintLast Go.Proofs.YtblooffiggciiaaW.PrintMore Go.Proofs.Ytblooffiggciiaa.Sh
attribute [local go_sem] max2_int min2_int max_two min_two max_three min_three max_four min_four   -- for this text's walks alone
attribute [local go_sem] Go.Proofs.Ytblooffiggciiaa.Aid.isSome_setCell
set_option linter.unusedVariables false
set_option linter.unusedSimpArgs false
attribute [local go_sem high] eqA29 eqA31 eqA32 eqA34 eqA60
mutual
def weftlinelaw13_PathFails.j0 : Nat → Int → Int → Int → Int → Bool → Int → Int → Int → Int → Int → Int → Int → Int → Int → Int → Bool → Int → Int → Int → Int → Int → Int → Int → Option (Bool)
  | 0, _, _, _, _, _, _, _, _, _, _, _, _, _, _, _, _, _, _, _, _, _, _, _ => none
  | k + 1, x1, x331000, x331001, x331002, x331003, x331004, x331005, x331006, x331007, x331008, x331009, x331010, x344000, x344001, x344002, x344003, x344004, x344005, x344006, x344007, x344008, x344009, x344010 => (path_Path_To.f k x344000 x344001 x344002 x344003 x344004 x344005 x344006 x344007 x344008 x344009 x344010 x1).bind fun bt382 => ((weftlineref13_Good.f k x331000 x331001 x331002 x331003 x331004 x331005 x331006 x331007 x331008 x331009 x331010).bind fun t395 => (if t395 = true then ((weftlineref13_Addr.f x1).bind fun t396 => (weftlinelaw13_PathFails.j1 k x1 bt382.2.2.2.2.2.2.2.2.2.2.2 (!t396) x331000 x331001 x331002 x331003 x331004 x331005 x331006 x331007 x331008 x331009 x331010 x344000 x344001 x344002 x344003 x344004 x344005 x344006 x344007 x344008 x344009 x344010 bt382.1 bt382.2.1 bt382.2.2.1 bt382.2.2.2.1 bt382.2.2.2.2.1 bt382.2.2.2.2.2.1 bt382.2.2.2.2.2.2.1 bt382.2.2.2.2.2.2.2.1 bt382.2.2.2.2.2.2.2.2.1 bt382.2.2.2.2.2.2.2.2.2.1 bt382.2.2.2.2.2.2.2.2.2.2.1)) else (weftlinelaw13_PathFails.j1 k x1 bt382.2.2.2.2.2.2.2.2.2.2.2 true x331000 x331001 x331002 x331003 x331004 x331005 x331006 x331007 x331008 x331009 x331010 x344000 x344001 x344002 x344003 x344004 x344005 x344006 x344007 x344008 x344009 x344010 bt382.1 bt382.2.1 bt382.2.2.1 bt382.2.2.2.1 bt382.2.2.2.2.1 bt382.2.2.2.2.2.1 bt382.2.2.2.2.2.2.1 bt382.2.2.2.2.2.2.2.1 bt382.2.2.2.2.2.2.2.2.1 bt382.2.2.2.2.2.2.2.2.2.1 bt382.2.2.2.2.2.2.2.2.2.2.1)))
def weftlinelaw13_PathFails.j1 : Nat → Int → Option Int → Bool → Int → Int → Int → Bool → Int → Int → Int → Int → Int → Int → Int → Int → Int → Int → Bool → Int → Int → Int → Int → Int → Int → Int → Int → Int → Int → Bool → Int → Int → Int → Int → Int → Int → Int → Option (Bool)
  | 0, _, _, _, _, _, _, _, _, _, _, _, _, _, _, _, _, _, _, _, _, _, _, _, _, _, _, _, _, _, _, _, _, _, _, _, _ => none
  | k + 1, x1, x7, x52, x331000, x331001, x331002, x331003, x331004, x331005, x331006, x331007, x331008, x331009, x331010, x344000, x344001, x344002, x344003, x344004, x344005, x344006, x344007, x344008, x344009, x344010, x395000, x395001, x395002, x395003, x395004, x395005, x395006, x395007, x395008, x395009, x395010 => if x52 = true then ((weftlinenum_Is.f x7 1).bind fun t397 => (if t397 = true then (if ((!(x395000 == 0) || (!(x395001 == 0) || (!(x395002 == 0) || (x395003)))) || ((!(x395004 == 0) || (!(x395005 == 0) || (!(x395006 == 0)))) || (!(x395007 == 0) || (!(x395008 == 0) || (!(x395009 == 0) || (!(x395010 == 0))))))) = true then (some false) else (weftlinelaw13_PathFails.j2 k x331000 x331001 x331002 x331003 x331004 x331005 x331006 x331007 x331008 x331009 x331010 x344000 x344001 x344002 x344003 x344004 x344005 x344006 x344007 x344008 x344009 x344010)) else (some false))) else (if x7.isNone = true then (if x395007 = x1 then (if x395008 = x344008 then (if (!(x395004 == x344004) || (!(x395005 == x344005) || (!(x395006 == x344006)))) = true then (some false) else (if (!(x395000 == x344000) || (!(x395001 == x344001) || (!(x395002 == x344002) || (!(x395003 == x344003))))) = true then (some false) else (if x395009 = x344009 then (weftlinelaw13_PathFails.j2 k x331000 x331001 x331002 x331003 x331004 x331005 x331006 x331007 x331008 x331009 x331010 x344000 x344001 x344002 x344003 x344004 x344005 x344006 x344007 x344008 x344009 x344010) else (some false)))) else (some false)) else (some false)) else (some false))
def weftlinelaw13_PathFails.j2 : Nat → Int → Int → Int → Bool → Int → Int → Int → Int → Int → Int → Int → Int → Int → Int → Bool → Int → Int → Int → Int → Int → Int → Int → Option (Bool)
  | 0, _, _, _, _, _, _, _, _, _, _, _, _, _, _, _, _, _, _, _, _, _, _ => none
  | k + 1, x331000, x331001, x331002, x331003, x331004, x331005, x331006, x331007, x331008, x331009, x331010, x344000, x344001, x344002, x344003, x344004, x344005, x344006, x344007, x344008, x344009, x344010 => (path_Good.f k x344000 x344001 x344002 x344003 x344004 x344005 x344006 x344007 x344008 x344009 x344010).bind fun t400 => ((weftlineref13_Good.f k x331000 x331001 x331002 x331003 x331004 x331005 x331006 x331007 x331008 x331009 x331010).bind fun t401 => (if (t400 == t401) = true then ((path_Path_Active.f k x344000 x344001 x344002 x344003 x344004 x344005 x344006 x344007 x344008 x344009 x344010).bind fun t402 => ((weftlineref13_Active.f k x331000 x331001 x331002 x331003 x331004 x331005 x331006 x331007 x331008 x331009 x331010).bind fun t403 => (if (t402 == t403) = true then ((path_Path_Failed.f k x344000 x344001 x344002 x344003 x344004 x344005 x344006 x344007 x344008 x344009 x344010).bind fun bt404 => ((weftlinelaw13_Document.f bt404.1 bt404.2.1 bt404.2.2.1 bt404.2.2.2.1 bt404.2.2.2.2.1 bt404.2.2.2.2.2.1 bt404.2.2.2.2.2.2.1 bt404.2.2.2.2.2.2.2.1 bt404.2.2.2.2.2.2.2.2.1 bt404.2.2.2.2.2.2.2.2.2.1 bt404.2.2.2.2.2.2.2.2.2.2).bind fun bt415 => ((weftlineref13_Failed.f k x331000 x331001 x331002 x331003 x331004 x331005 x331006 x331007 x331008 x331009 x331010).bind fun bt426 => (if ((bt415.1 == bt426.1 && (bt415.2.1 == bt426.2.1 && (bt415.2.2.1 == bt426.2.2.1 && (bt415.2.2.2.1 == bt426.2.2.2.1)))) && ((bt415.2.2.2.2.1 == bt426.2.2.2.2.1 && (bt415.2.2.2.2.2.1 == bt426.2.2.2.2.2.1 && (bt415.2.2.2.2.2.2.1 == bt426.2.2.2.2.2.2.1))) && (bt415.2.2.2.2.2.2.2.1 == bt426.2.2.2.2.2.2.2.1 && (bt415.2.2.2.2.2.2.2.2.1 == bt426.2.2.2.2.2.2.2.2.1 && (bt415.2.2.2.2.2.2.2.2.2.1 == bt426.2.2.2.2.2.2.2.2.2.1 && (bt415.2.2.2.2.2.2.2.2.2.2 == bt426.2.2.2.2.2.2.2.2.2.2)))))) = true then ((path_Path_Heard.f k x344000 x344001 x344002 x344003 x344004 x344005 x344006 x344007 x344008 x344009 x344010).bind fun bt437 => ((weftlinelaw13_Document.f bt437.1 bt437.2.1 bt437.2.2.1 bt437.2.2.2.1 bt437.2.2.2.2.1 bt437.2.2.2.2.2.1 bt437.2.2.2.2.2.2.1 bt437.2.2.2.2.2.2.2.1 bt437.2.2.2.2.2.2.2.2.1 bt437.2.2.2.2.2.2.2.2.2.1 bt437.2.2.2.2.2.2.2.2.2.2).bind fun bt448 => ((weftlineref13_Heard.f k x331000 x331001 x331002 x331003 x331004 x331005 x331006 x331007 x331008 x331009 x331010).bind fun bt459 => (if ((bt448.1 == bt459.1 && (bt448.2.1 == bt459.2.1 && (bt448.2.2.1 == bt459.2.2.1 && (bt448.2.2.2.1 == bt459.2.2.2.1)))) && ((bt448.2.2.2.2.1 == bt459.2.2.2.2.1 && (bt448.2.2.2.2.2.1 == bt459.2.2.2.2.2.1 && (bt448.2.2.2.2.2.2.1 == bt459.2.2.2.2.2.2.1))) && (bt448.2.2.2.2.2.2.2.1 == bt459.2.2.2.2.2.2.2.1 && (bt448.2.2.2.2.2.2.2.2.1 == bt459.2.2.2.2.2.2.2.2.1 && (bt448.2.2.2.2.2.2.2.2.2.1 == bt459.2.2.2.2.2.2.2.2.2.1 && (bt448.2.2.2.2.2.2.2.2.2.2 == bt459.2.2.2.2.2.2.2.2.2.2)))))) = true then ((path_Path_Missed.f k x344000 x344001 x344002 x344003 x344004 x344005 x344006 x344007 x344008 x344009 x344010).bind fun bt470 => ((weftlinelaw13_Document.f bt470.1 bt470.2.1 bt470.2.2.1 bt470.2.2.2.1 bt470.2.2.2.2.1 bt470.2.2.2.2.2.1 bt470.2.2.2.2.2.2.1 bt470.2.2.2.2.2.2.2.1 bt470.2.2.2.2.2.2.2.2.1 bt470.2.2.2.2.2.2.2.2.2.1 bt470.2.2.2.2.2.2.2.2.2.2).bind fun bt481 => ((weftlineref13_Missed.f k x331000 x331001 x331002 x331003 x331004 x331005 x331006 x331007 x331008 x331009 x331010).bind fun bt492 => (some ((bt481.1 == bt492.1 && (bt481.2.1 == bt492.2.1 && (bt481.2.2.1 == bt492.2.2.1 && (bt481.2.2.2.1 == bt492.2.2.2.1)))) && ((bt481.2.2.2.2.1 == bt492.2.2.2.2.1 && (bt481.2.2.2.2.2.1 == bt492.2.2.2.2.2.1 && (bt481.2.2.2.2.2.2.1 == bt492.2.2.2.2.2.2.1))) && (bt481.2.2.2.2.2.2.2.1 == bt492.2.2.2.2.2.2.2.1 && (bt481.2.2.2.2.2.2.2.2.1 == bt492.2.2.2.2.2.2.2.2.1 && (bt481.2.2.2.2.2.2.2.2.2.1 == bt492.2.2.2.2.2.2.2.2.2.1 && (bt481.2.2.2.2.2.2.2.2.2.2 == bt492.2.2.2.2.2.2.2.2.2.2)))))))))) else (some false))))) else (some false))))) else (some false)))) else (some false)))
end
def weftlinelaw13_PathFails.f (k : Nat) (a0_0 : Int) (a0_1 : Int) (a0_2 : Int) (a0_3 : Bool) (a0_4 : Int) (a0_5 : Int) (a0_6 : Int) (a0_7 : Int) (a0_8 : Int) (a0_9 : Int) (a0_10 : Int) (a1 : Int) : Option (Bool) := (weftlinelaw13_alive.f k).bind fun t331 => (if t331 = true then ((weftlinelaw13_Program.f a0_0 a0_1 a0_2 a0_3 a0_4 a0_5 a0_6 a0_7 a0_8 a0_9 a0_10).bind fun bt332 => ((path_New.f a1).bind fun bt344 => ((weftlineref13_Addr.f a1).bind fun t357 => (if t357 = true then (if bt344.2.2.2.2.2.2.2.2.2.2.2.isNone = true then ((weftlinelaw13_Document.f bt344.1 bt344.2.1 bt344.2.2.1 bt344.2.2.2.1 bt344.2.2.2.2.1 bt344.2.2.2.2.2.1 bt344.2.2.2.2.2.2.1 bt344.2.2.2.2.2.2.2.1 bt344.2.2.2.2.2.2.2.2.1 bt344.2.2.2.2.2.2.2.2.2.1 bt344.2.2.2.2.2.2.2.2.2.2.1).bind fun bt359 => ((weftlineref13_New.f a1).bind fun bt370 => (if ((!(bt359.1 == bt370.1) || (!(bt359.2.1 == bt370.2.1) || (!(bt359.2.2.1 == bt370.2.2.1) || (!(bt359.2.2.2.1 == bt370.2.2.2.1))))) || ((!(bt359.2.2.2.2.1 == bt370.2.2.2.2.1) || (!(bt359.2.2.2.2.2.1 == bt370.2.2.2.2.2.1) || (!(bt359.2.2.2.2.2.2.1 == bt370.2.2.2.2.2.2.1)))) || (!(bt359.2.2.2.2.2.2.2.1 == bt370.2.2.2.2.2.2.2.1) || (!(bt359.2.2.2.2.2.2.2.2.1 == bt370.2.2.2.2.2.2.2.2.1) || (!(bt359.2.2.2.2.2.2.2.2.2.1 == bt370.2.2.2.2.2.2.2.2.2.1) || (!(bt359.2.2.2.2.2.2.2.2.2.2 == bt370.2.2.2.2.2.2.2.2.2.2))))))) = true then (some false) else (weftlinelaw13_PathFails.j0 k a1 a0_0 a0_1 a0_2 a0_3 a0_4 a0_5 a0_6 a0_7 a0_8 a0_9 a0_10 bt332.1 bt332.2.1 bt332.2.2.1 bt332.2.2.2.1 bt332.2.2.2.2.1 bt332.2.2.2.2.2.1 bt332.2.2.2.2.2.2.1 bt332.2.2.2.2.2.2.2.1 bt332.2.2.2.2.2.2.2.2.1 bt332.2.2.2.2.2.2.2.2.2.1 bt332.2.2.2.2.2.2.2.2.2.2)))) else (some false)) else ((weftlinenum_Is.f bt344.2.2.2.2.2.2.2.2.2.2.2 1).bind fun t381 => (if t381 = true then (if ((!(bt344.1 == 0) || (!(bt344.2.1 == 0) || (!(bt344.2.2.1 == 0) || (bt344.2.2.2.1)))) || ((!(bt344.2.2.2.2.1 == 0) || (!(bt344.2.2.2.2.2.1 == 0) || (!(bt344.2.2.2.2.2.2.1 == 0)))) || (!(bt344.2.2.2.2.2.2.2.1 == 0) || (!(bt344.2.2.2.2.2.2.2.2.1 == 0) || (!(bt344.2.2.2.2.2.2.2.2.2.1 == 0) || (!(bt344.2.2.2.2.2.2.2.2.2.2.1 == 0))))))) = true then (some false) else (weftlinelaw13_PathFails.j0 k a1 a0_0 a0_1 a0_2 a0_3 a0_4 a0_5 a0_6 a0_7 a0_8 a0_9 a0_10 bt332.1 bt332.2.1 bt332.2.2.1 bt332.2.2.2.1 bt332.2.2.2.2.1 bt332.2.2.2.2.2.1 bt332.2.2.2.2.2.2.1 bt332.2.2.2.2.2.2.2.1 bt332.2.2.2.2.2.2.2.2.1 bt332.2.2.2.2.2.2.2.2.2.1 bt332.2.2.2.2.2.2.2.2.2.2)) else (some false))))))) else (some false))
def weftlinelaw13_PathFails.T17 : Bool × List (List Nat × List Nat) := (true, [([], []), ([0], [0]), ([], []), ([2, 1], [2]), ([1, 3], [1, 3]), ([4, 3], [4]), ([5], [5]), ([6, 5, 5], [5, 6]), ([5], [5]), ([8, 7, 5], [5, 8]), ([7, 9, 5], [5, 7, 9]), ([5, 10], [5, 10]), ([11, 9], [11]), ([12], [12]), ([13, 12, 12], [12, 13]), ([14, 14, 12], [12, 14]), ([12], [12]), ([16, 15, 12], [12, 16]), ([15, 17, 12], [12, 15, 17]), ([12, 18], [12, 18]), ([19, 17], [19]), ([20], [20]), ([21, 20, 20], [20, 21]), ([22, 22, 20], [20, 22]), ([20], [20]), ([24, 23, 20], [20, 24]), ([23, 25, 20], [20, 23, 25]), ([20, 26], [20, 26]), ([27, 25], [27]), ([28], [28]), ([29, 28, 28], [28, 29]), ([30, 30, 28], [28, 30]), ([28], [28]), ([32, 31, 28], [28, 32]), ([31, 33, 28], [28, 31, 33]), ([28, 34], [28, 34]), ([35, 33, 0, 1, 2, 3, 4, 5, 6, 7, 8, 9, 10, 11, 12, 13, 14, 15, 16, 17, 18, 19, 20, 21, 22, 23, 24, 25, 26, 27, 28, 29, 30, 31, 32, 33, 34, 35], [35])])
def weftlinelaw13_PathFails.B17 : List Nat := [0, 1, 0, 7, 15, 31, 63, 127, 63, 511, 1023, 2047, 4095, 8191, 16383, 32767, 8191, 131071, 262143, 524287, 1048575, 2097151, 4194303, 8388607, 2097151, 33554431, 67108863, 134217727, 268435455, 536870911, 1073741823, 2147483647, 536870911, 8589934591, 17179869183, 34359738367, 68719476735]
theorem weftlinelaw13_PathFails.tab17 : rtab .any (opsOf Try.f3 17) = weftlinelaw13_PathFails.T17 := by kernel_rfl
theorem weftlinelaw13_PathFails.bits17 : waitsOk weftlinelaw13_PathFails.T17.2 weftlinelaw13_PathFails.B17 = true := by kernel_rfl
set_option maxHeartbeats 8000000 in
set_option maxRecDepth 100000 in
theorem weftlinelaw13_PathFails.calls_t (k : Nat) (a0_0 : Int) (a0_1 : Int) (a0_2 : Int) (a0_3 : Bool) (a0_4 : Int) (a0_5 : Int) (a0_6 : Int) (a0_7 : Int) (a0_8 : Int) (a0_9 : Int) (a0_10 : Int) (a1 : Int) (r : Bool) (w : World) (hr0 : Aside0 (r = true)) (h : weftlinelaw13_PathFails.f k a0_0 a0_1 a0_2 a0_3 a0_4 a0_5 a0_6 a0_7 a0_8 a0_9 a0_10 a1 = some r) :
    Calls Try.prog 3 #[.agg #[.int .i64 a0_0, .int .i64 a0_1, .int .i64 a0_2, .bool a0_3, .int .i64 a0_4, .int .i64 a0_5, .int .i64 a0_6, .int .i64 a0_7, .int .i64 a0_8, .int .u32 a0_9, .int .i64 a0_10], .int .i64 a1] w fun e w' => e = .returned (.bool r) ∧ Below w.heap.size w w' := by
  have hu29 := Try.underlying29
  have hu34 := Try.underlying34
  have hu32 := Try.underlying32
  have hu31 := Try.underlying31
  have hu37 := Try.underlying37
  have hu42 := Try.underlying42
  have HB := A0 (Below.refl w.heap.size w)
  have H : ((weftlinelaw13_alive.f k).bind fun t331 => (if t331 = true then ((weftlinelaw13_Program.f a0_0 a0_1 a0_2 a0_3 a0_4 a0_5 a0_6 a0_7 a0_8 a0_9 a0_10).bind fun bt332 => ((path_New.f a1).bind fun bt344 => ((weftlineref13_Addr.f a1).bind fun t357 => (if t357 = true then (if bt344.2.2.2.2.2.2.2.2.2.2.2.isNone = true then ((weftlinelaw13_Document.f bt344.1 bt344.2.1 bt344.2.2.1 bt344.2.2.2.1 bt344.2.2.2.2.1 bt344.2.2.2.2.2.1 bt344.2.2.2.2.2.2.1 bt344.2.2.2.2.2.2.2.1 bt344.2.2.2.2.2.2.2.2.1 bt344.2.2.2.2.2.2.2.2.2.1 bt344.2.2.2.2.2.2.2.2.2.2.1).bind fun bt359 => ((weftlineref13_New.f a1).bind fun bt370 => (if ((!(bt359.1 == bt370.1) || (!(bt359.2.1 == bt370.2.1) || (!(bt359.2.2.1 == bt370.2.2.1) || (!(bt359.2.2.2.1 == bt370.2.2.2.1))))) || ((!(bt359.2.2.2.2.1 == bt370.2.2.2.2.1) || (!(bt359.2.2.2.2.2.1 == bt370.2.2.2.2.2.1) || (!(bt359.2.2.2.2.2.2.1 == bt370.2.2.2.2.2.2.1)))) || (!(bt359.2.2.2.2.2.2.2.1 == bt370.2.2.2.2.2.2.2.1) || (!(bt359.2.2.2.2.2.2.2.2.1 == bt370.2.2.2.2.2.2.2.2.1) || (!(bt359.2.2.2.2.2.2.2.2.2.1 == bt370.2.2.2.2.2.2.2.2.2.1) || (!(bt359.2.2.2.2.2.2.2.2.2.2 == bt370.2.2.2.2.2.2.2.2.2.2))))))) = true then (some false) else (weftlinelaw13_PathFails.j0 k a1 a0_0 a0_1 a0_2 a0_3 a0_4 a0_5 a0_6 a0_7 a0_8 a0_9 a0_10 bt332.1 bt332.2.1 bt332.2.2.1 bt332.2.2.2.1 bt332.2.2.2.2.1 bt332.2.2.2.2.2.1 bt332.2.2.2.2.2.2.1 bt332.2.2.2.2.2.2.2.1 bt332.2.2.2.2.2.2.2.2.1 bt332.2.2.2.2.2.2.2.2.2.1 bt332.2.2.2.2.2.2.2.2.2.2)))) else (some false)) else ((weftlinenum_Is.f bt344.2.2.2.2.2.2.2.2.2.2.2 1).bind fun t381 => (if t381 = true then (if ((!(bt344.1 == 0) || (!(bt344.2.1 == 0) || (!(bt344.2.2.1 == 0) || (bt344.2.2.2.1)))) || ((!(bt344.2.2.2.2.1 == 0) || (!(bt344.2.2.2.2.2.1 == 0) || (!(bt344.2.2.2.2.2.2.1 == 0)))) || (!(bt344.2.2.2.2.2.2.2.1 == 0) || (!(bt344.2.2.2.2.2.2.2.2.1 == 0) || (!(bt344.2.2.2.2.2.2.2.2.2.1 == 0) || (!(bt344.2.2.2.2.2.2.2.2.2.2.1 == 0))))))) = true then (some false) else (weftlinelaw13_PathFails.j0 k a1 a0_0 a0_1 a0_2 a0_3 a0_4 a0_5 a0_6 a0_7 a0_8 a0_9 a0_10 bt332.1 bt332.2.1 bt332.2.2.1 bt332.2.2.2.1 bt332.2.2.2.2.1 bt332.2.2.2.2.2.1 bt332.2.2.2.2.2.2.1 bt332.2.2.2.2.2.2.2.1 bt332.2.2.2.2.2.2.2.2.1 bt332.2.2.2.2.2.2.2.2.2.1 bt332.2.2.2.2.2.2.2.2.2.2)) else (some false))))))) else (some false))) = some r := h
  clear h
  replace H := Option.bind_eq_some_iff.mp H
  obtain ⟨t331, A30, H⟩ := H
  replace H : (if t331 = true then ((weftlinelaw13_Program.f a0_0 a0_1 a0_2 a0_3 a0_4 a0_5 a0_6 a0_7 a0_8 a0_9 a0_10).bind fun bt332 => ((path_New.f a1).bind fun bt344 => ((weftlineref13_Addr.f a1).bind fun t357 => (if t357 = true then (if bt344.2.2.2.2.2.2.2.2.2.2.2.isNone = true then ((weftlinelaw13_Document.f bt344.1 bt344.2.1 bt344.2.2.1 bt344.2.2.2.1 bt344.2.2.2.2.1 bt344.2.2.2.2.2.1 bt344.2.2.2.2.2.2.1 bt344.2.2.2.2.2.2.2.1 bt344.2.2.2.2.2.2.2.2.1 bt344.2.2.2.2.2.2.2.2.2.1 bt344.2.2.2.2.2.2.2.2.2.2.1).bind fun bt359 => ((weftlineref13_New.f a1).bind fun bt370 => (if ((!(bt359.1 == bt370.1) || (!(bt359.2.1 == bt370.2.1) || (!(bt359.2.2.1 == bt370.2.2.1) || (!(bt359.2.2.2.1 == bt370.2.2.2.1))))) || ((!(bt359.2.2.2.2.1 == bt370.2.2.2.2.1) || (!(bt359.2.2.2.2.2.1 == bt370.2.2.2.2.2.1) || (!(bt359.2.2.2.2.2.2.1 == bt370.2.2.2.2.2.2.1)))) || (!(bt359.2.2.2.2.2.2.2.1 == bt370.2.2.2.2.2.2.2.1) || (!(bt359.2.2.2.2.2.2.2.2.1 == bt370.2.2.2.2.2.2.2.2.1) || (!(bt359.2.2.2.2.2.2.2.2.2.1 == bt370.2.2.2.2.2.2.2.2.2.1) || (!(bt359.2.2.2.2.2.2.2.2.2.2 == bt370.2.2.2.2.2.2.2.2.2.2))))))) = true then (some false) else (weftlinelaw13_PathFails.j0 k a1 a0_0 a0_1 a0_2 a0_3 a0_4 a0_5 a0_6 a0_7 a0_8 a0_9 a0_10 bt332.1 bt332.2.1 bt332.2.2.1 bt332.2.2.2.1 bt332.2.2.2.2.1 bt332.2.2.2.2.2.1 bt332.2.2.2.2.2.2.1 bt332.2.2.2.2.2.2.2.1 bt332.2.2.2.2.2.2.2.2.1 bt332.2.2.2.2.2.2.2.2.2.1 bt332.2.2.2.2.2.2.2.2.2.2)))) else (some false)) else ((weftlinenum_Is.f bt344.2.2.2.2.2.2.2.2.2.2.2 1).bind fun t381 => (if t381 = true then (if ((!(bt344.1 == 0) || (!(bt344.2.1 == 0) || (!(bt344.2.2.1 == 0) || (bt344.2.2.2.1)))) || ((!(bt344.2.2.2.2.1 == 0) || (!(bt344.2.2.2.2.2.1 == 0) || (!(bt344.2.2.2.2.2.2.1 == 0)))) || (!(bt344.2.2.2.2.2.2.2.1 == 0) || (!(bt344.2.2.2.2.2.2.2.2.1 == 0) || (!(bt344.2.2.2.2.2.2.2.2.2.1 == 0) || (!(bt344.2.2.2.2.2.2.2.2.2.2.1 == 0))))))) = true then (some false) else (weftlinelaw13_PathFails.j0 k a1 a0_0 a0_1 a0_2 a0_3 a0_4 a0_5 a0_6 a0_7 a0_8 a0_9 a0_10 bt332.1 bt332.2.1 bt332.2.2.1 bt332.2.2.2.1 bt332.2.2.2.2.1 bt332.2.2.2.2.2.1 bt332.2.2.2.2.2.2.1 bt332.2.2.2.2.2.2.2.1 bt332.2.2.2.2.2.2.2.2.1 bt332.2.2.2.2.2.2.2.2.2.1 bt332.2.2.2.2.2.2.2.2.2.2)) else (some false))))))) else (some false)) = some r := H
  have A3 := Aside0.mk A30
  clear A30
  by_cases c4 : t331 = true
  · subst c4
    have H1 : ((weftlinelaw13_Program.f a0_0 a0_1 a0_2 a0_3 a0_4 a0_5 a0_6 a0_7 a0_8 a0_9 a0_10).bind fun bt332 => ((path_New.f a1).bind fun bt344 => ((weftlineref13_Addr.f a1).bind fun t357 => (if t357 = true then (if bt344.2.2.2.2.2.2.2.2.2.2.2.isNone = true then ((weftlinelaw13_Document.f bt344.1 bt344.2.1 bt344.2.2.1 bt344.2.2.2.1 bt344.2.2.2.2.1 bt344.2.2.2.2.2.1 bt344.2.2.2.2.2.2.1 bt344.2.2.2.2.2.2.2.1 bt344.2.2.2.2.2.2.2.2.1 bt344.2.2.2.2.2.2.2.2.2.1 bt344.2.2.2.2.2.2.2.2.2.2.1).bind fun bt359 => ((weftlineref13_New.f a1).bind fun bt370 => (if ((!(bt359.1 == bt370.1) || (!(bt359.2.1 == bt370.2.1) || (!(bt359.2.2.1 == bt370.2.2.1) || (!(bt359.2.2.2.1 == bt370.2.2.2.1))))) || ((!(bt359.2.2.2.2.1 == bt370.2.2.2.2.1) || (!(bt359.2.2.2.2.2.1 == bt370.2.2.2.2.2.1) || (!(bt359.2.2.2.2.2.2.1 == bt370.2.2.2.2.2.2.1)))) || (!(bt359.2.2.2.2.2.2.2.1 == bt370.2.2.2.2.2.2.2.1) || (!(bt359.2.2.2.2.2.2.2.2.1 == bt370.2.2.2.2.2.2.2.2.1) || (!(bt359.2.2.2.2.2.2.2.2.2.1 == bt370.2.2.2.2.2.2.2.2.2.1) || (!(bt359.2.2.2.2.2.2.2.2.2.2 == bt370.2.2.2.2.2.2.2.2.2.2))))))) = true then (some false) else (weftlinelaw13_PathFails.j0 k a1 a0_0 a0_1 a0_2 a0_3 a0_4 a0_5 a0_6 a0_7 a0_8 a0_9 a0_10 bt332.1 bt332.2.1 bt332.2.2.1 bt332.2.2.2.1 bt332.2.2.2.2.1 bt332.2.2.2.2.2.1 bt332.2.2.2.2.2.2.1 bt332.2.2.2.2.2.2.2.1 bt332.2.2.2.2.2.2.2.2.1 bt332.2.2.2.2.2.2.2.2.2.1 bt332.2.2.2.2.2.2.2.2.2.2)))) else (some false)) else ((weftlinenum_Is.f bt344.2.2.2.2.2.2.2.2.2.2.2 1).bind fun t381 => (if t381 = true then (if ((!(bt344.1 == 0) || (!(bt344.2.1 == 0) || (!(bt344.2.2.1 == 0) || (bt344.2.2.2.1)))) || ((!(bt344.2.2.2.2.1 == 0) || (!(bt344.2.2.2.2.2.1 == 0) || (!(bt344.2.2.2.2.2.2.1 == 0)))) || (!(bt344.2.2.2.2.2.2.2.1 == 0) || (!(bt344.2.2.2.2.2.2.2.2.1 == 0) || (!(bt344.2.2.2.2.2.2.2.2.2.1 == 0) || (!(bt344.2.2.2.2.2.2.2.2.2.2.1 == 0))))))) = true then (some false) else (weftlinelaw13_PathFails.j0 k a1 a0_0 a0_1 a0_2 a0_3 a0_4 a0_5 a0_6 a0_7 a0_8 a0_9 a0_10 bt332.1 bt332.2.1 bt332.2.2.1 bt332.2.2.2.1 bt332.2.2.2.2.1 bt332.2.2.2.2.2.1 bt332.2.2.2.2.2.2.1 bt332.2.2.2.2.2.2.2.1 bt332.2.2.2.2.2.2.2.2.1 bt332.2.2.2.2.2.2.2.2.2.1 bt332.2.2.2.2.2.2.2.2.2.2)) else (some false))))))) = some r := by rw [if_pos rfl] at H; exact H
    clear H
    have H := H1
    clear H1
    replace H := Option.bind_eq_some_iff.mp H
    obtain ⟨⟨t332, t333, t334, t335, t336, t337, t338, t339, t340, t341, t342⟩, A50, H⟩ := H
    replace H : ((path_New.f a1).bind fun bt344 => ((weftlineref13_Addr.f a1).bind fun t357 => (if t357 = true then (if bt344.2.2.2.2.2.2.2.2.2.2.2.isNone = true then ((weftlinelaw13_Document.f bt344.1 bt344.2.1 bt344.2.2.1 bt344.2.2.2.1 bt344.2.2.2.2.1 bt344.2.2.2.2.2.1 bt344.2.2.2.2.2.2.1 bt344.2.2.2.2.2.2.2.1 bt344.2.2.2.2.2.2.2.2.1 bt344.2.2.2.2.2.2.2.2.2.1 bt344.2.2.2.2.2.2.2.2.2.2.1).bind fun bt359 => ((weftlineref13_New.f a1).bind fun bt370 => (if ((!(bt359.1 == bt370.1) || (!(bt359.2.1 == bt370.2.1) || (!(bt359.2.2.1 == bt370.2.2.1) || (!(bt359.2.2.2.1 == bt370.2.2.2.1))))) || ((!(bt359.2.2.2.2.1 == bt370.2.2.2.2.1) || (!(bt359.2.2.2.2.2.1 == bt370.2.2.2.2.2.1) || (!(bt359.2.2.2.2.2.2.1 == bt370.2.2.2.2.2.2.1)))) || (!(bt359.2.2.2.2.2.2.2.1 == bt370.2.2.2.2.2.2.2.1) || (!(bt359.2.2.2.2.2.2.2.2.1 == bt370.2.2.2.2.2.2.2.2.1) || (!(bt359.2.2.2.2.2.2.2.2.2.1 == bt370.2.2.2.2.2.2.2.2.2.1) || (!(bt359.2.2.2.2.2.2.2.2.2.2 == bt370.2.2.2.2.2.2.2.2.2.2))))))) = true then (some false) else (weftlinelaw13_PathFails.j0 k a1 a0_0 a0_1 a0_2 a0_3 a0_4 a0_5 a0_6 a0_7 a0_8 a0_9 a0_10 t332 t333 t334 t335 t336 t337 t338 t339 t340 t341 t342)))) else (some false)) else ((weftlinenum_Is.f bt344.2.2.2.2.2.2.2.2.2.2.2 1).bind fun t381 => (if t381 = true then (if ((!(bt344.1 == 0) || (!(bt344.2.1 == 0) || (!(bt344.2.2.1 == 0) || (bt344.2.2.2.1)))) || ((!(bt344.2.2.2.2.1 == 0) || (!(bt344.2.2.2.2.2.1 == 0) || (!(bt344.2.2.2.2.2.2.1 == 0)))) || (!(bt344.2.2.2.2.2.2.2.1 == 0) || (!(bt344.2.2.2.2.2.2.2.2.1 == 0) || (!(bt344.2.2.2.2.2.2.2.2.2.1 == 0) || (!(bt344.2.2.2.2.2.2.2.2.2.2.1 == 0))))))) = true then (some false) else (weftlinelaw13_PathFails.j0 k a1 a0_0 a0_1 a0_2 a0_3 a0_4 a0_5 a0_6 a0_7 a0_8 a0_9 a0_10 t332 t333 t334 t335 t336 t337 t338 t339 t340 t341 t342)) else (some false)))))) = some r := H
    have A5 := Aside0.mk A50
    clear A50
    replace H := Option.bind_eq_some_iff.mp H
    obtain ⟨⟨t344, t345, t346, t347, t348, t349, t350, t351, t352, t353, t354, t355⟩, A60, H⟩ := H
    replace H : ((weftlineref13_Addr.f a1).bind fun t357 => (if t357 = true then (if t355.isNone = true then ((weftlinelaw13_Document.f t344 t345 t346 t347 t348 t349 t350 t351 t352 t353 t354).bind fun bt359 => ((weftlineref13_New.f a1).bind fun bt370 => (if ((!(bt359.1 == bt370.1) || (!(bt359.2.1 == bt370.2.1) || (!(bt359.2.2.1 == bt370.2.2.1) || (!(bt359.2.2.2.1 == bt370.2.2.2.1))))) || ((!(bt359.2.2.2.2.1 == bt370.2.2.2.2.1) || (!(bt359.2.2.2.2.2.1 == bt370.2.2.2.2.2.1) || (!(bt359.2.2.2.2.2.2.1 == bt370.2.2.2.2.2.2.1)))) || (!(bt359.2.2.2.2.2.2.2.1 == bt370.2.2.2.2.2.2.2.1) || (!(bt359.2.2.2.2.2.2.2.2.1 == bt370.2.2.2.2.2.2.2.2.1) || (!(bt359.2.2.2.2.2.2.2.2.2.1 == bt370.2.2.2.2.2.2.2.2.2.1) || (!(bt359.2.2.2.2.2.2.2.2.2.2 == bt370.2.2.2.2.2.2.2.2.2.2))))))) = true then (some false) else (weftlinelaw13_PathFails.j0 k a1 a0_0 a0_1 a0_2 a0_3 a0_4 a0_5 a0_6 a0_7 a0_8 a0_9 a0_10 t332 t333 t334 t335 t336 t337 t338 t339 t340 t341 t342)))) else (some false)) else ((weftlinenum_Is.f t355 1).bind fun t381 => (if t381 = true then (if ((!(t344 == 0) || (!(t345 == 0) || (!(t346 == 0) || (t347)))) || ((!(t348 == 0) || (!(t349 == 0) || (!(t350 == 0)))) || (!(t351 == 0) || (!(t352 == 0) || (!(t353 == 0) || (!(t354 == 0))))))) = true then (some false) else (weftlinelaw13_PathFails.j0 k a1 a0_0 a0_1 a0_2 a0_3 a0_4 a0_5 a0_6 a0_7 a0_8 a0_9 a0_10 t332 t333 t334 t335 t336 t337 t338 t339 t340 t341 t342)) else (some false))))) = some r := H
    have A6 := Aside0.mk A60
    clear A60
    replace H := Option.bind_eq_some_iff.mp H
    obtain ⟨t357, A70, H⟩ := H
    replace H : (if t357 = true then (if t355.isNone = true then ((weftlinelaw13_Document.f t344 t345 t346 t347 t348 t349 t350 t351 t352 t353 t354).bind fun bt359 => ((weftlineref13_New.f a1).bind fun bt370 => (if ((!(bt359.1 == bt370.1) || (!(bt359.2.1 == bt370.2.1) || (!(bt359.2.2.1 == bt370.2.2.1) || (!(bt359.2.2.2.1 == bt370.2.2.2.1))))) || ((!(bt359.2.2.2.2.1 == bt370.2.2.2.2.1) || (!(bt359.2.2.2.2.2.1 == bt370.2.2.2.2.2.1) || (!(bt359.2.2.2.2.2.2.1 == bt370.2.2.2.2.2.2.1)))) || (!(bt359.2.2.2.2.2.2.2.1 == bt370.2.2.2.2.2.2.2.1) || (!(bt359.2.2.2.2.2.2.2.2.1 == bt370.2.2.2.2.2.2.2.2.1) || (!(bt359.2.2.2.2.2.2.2.2.2.1 == bt370.2.2.2.2.2.2.2.2.2.1) || (!(bt359.2.2.2.2.2.2.2.2.2.2 == bt370.2.2.2.2.2.2.2.2.2.2))))))) = true then (some false) else (weftlinelaw13_PathFails.j0 k a1 a0_0 a0_1 a0_2 a0_3 a0_4 a0_5 a0_6 a0_7 a0_8 a0_9 a0_10 t332 t333 t334 t335 t336 t337 t338 t339 t340 t341 t342)))) else (some false)) else ((weftlinenum_Is.f t355 1).bind fun t381 => (if t381 = true then (if ((!(t344 == 0) || (!(t345 == 0) || (!(t346 == 0) || (t347)))) || ((!(t348 == 0) || (!(t349 == 0) || (!(t350 == 0)))) || (!(t351 == 0) || (!(t352 == 0) || (!(t353 == 0) || (!(t354 == 0))))))) = true then (some false) else (weftlinelaw13_PathFails.j0 k a1 a0_0 a0_1 a0_2 a0_3 a0_4 a0_5 a0_6 a0_7 a0_8 a0_9 a0_10 t332 t333 t334 t335 t336 t337 t338 t339 t340 t341 t342)) else (some false)))) = some r := H
    have A7 := Aside0.mk A70
    clear A70
    have HC8 := Aside0.mk H
    clear H
    go_enter Try.func3, Try.ntmps3
    go_upto_if 21 with (first | ((with_reducible refine gate_dst (N := 2) rfl ?_); refine box_event ?hg (N := 2) ?hd (cs := #[.int .i64 a0_0, .int .i64 a0_1, .int .i64 a0_2, .bool a0_3, .int .i64 a0_4, .int .i64 a0_5, .int .i64 a0_6, .int .i64 a0_7, .int .i64 a0_8, .int .u32 a0_9, .int .i64 a0_10]) (t := 29) ?hr ?_; (case hd => rfl); (case hg => rfl); (case hr => first | (go_simp; done) | (go_simp; rfl)); intro gb330 hg w9 hbox hb; have n0_ := A0 (below_step (by repeat (first | (with_reducible first | exact HB.out | apply b1 | apply b2 | apply b3) | exact HB.out)) hb); have n1_ := A0 (hbox); have n2_ := A0 ((by rw [hg]; exact (below_size (by repeat (first | (with_reducible first | exact HB.out | apply b1 | apply b2 | apply b3) | exact HB.out))) : w.heap.size ≤ gb330)); have n3_ := n2_; clear HB; have HB := n0_; have BK330 := n1_; have GW330 := n2_; have GE330 := n3_; clear n0_ n1_ n2_ n3_; clear hb hbox hg) | ((with_reducible refine gate_callee (f := 11) rfl ?_); refine goesL_ (some 10) rfl rfl Try.func11 (by kernel_rfl) rfl #[] rfl (by (try simp only [List.map_toArray, List.map_cons, List.map_nil]); first | done | rfl | (simp only [List.length_drop, List.length_take]; rfl)) ?_; (with_reducible refine (weftlinelaw13_alive.calls k  true _ A3.out).mono ?_); rintro e w10 ⟨rfl, hb⟩; refine ⟨_, rfl, ?_⟩; have n0_ := A0 (blk_below (by (with_reducible repeat (first | refine q1 ?_ _ | refine q2 ?_ | refine q3 ?_ _)); exact BK330.out) hb); have n1_ := A0 (below_step (by repeat (first | (with_reducible first | exact HB.out | apply b1 | apply b2 | apply b3 | refine below_set ?_ GE330.out) | exact HB.out)) hb); clear BK330; clear HB; have BK330 := n0_; have HB := n1_; clear n0_ n1_; (try clear hb); (try clear hb2); (try clear hk); (try clear hi); have hcz11 := cc11 BK330.out) | ((with_reducible refine gate_callee (f := 12) rfl ?_); refine goesL_ (some 13) rfl rfl Try.func12 (by kernel_rfl) rfl #[.agg #[.int .i64 a0_0, .int .i64 a0_1, .int .i64 a0_2, .bool a0_3, .int .i64 a0_4, .int .i64 a0_5, .int .i64 a0_6, .int .i64 a0_7, .int .i64 a0_8, .int .u32 a0_9, .int .i64 a0_10]] rfl (by (try simp only [List.map_toArray, List.map_cons, List.map_nil]); first | done | rfl | (simp only [List.length_drop, List.length_take]; rfl)) ?_; (with_reducible refine (weftlinelaw13_Program.calls a0_0 a0_1 a0_2 a0_3 a0_4 a0_5 a0_6 a0_7 a0_8 a0_9 a0_10 t332 t333 t334 t335 t336 t337 t338 t339 t340 t341 t342 _ A5.out).mono ?_); rintro e w12 ⟨rfl, hb⟩; refine ⟨_, rfl, ?_⟩; have n0_ := A0 (blk_below (by (with_reducible repeat (first | refine q1 ?_ _ | refine q2 ?_ | refine q3 ?_ _)); exact BK330.out) hb); have n1_ := A0 (below_step (by repeat (first | (with_reducible first | exact HB.out | apply b1 | apply b2 | apply b3 | refine below_set ?_ GE330.out) | exact HB.out)) hb); clear BK330; clear HB; have BK330 := n0_; have HB := n1_; clear n0_ n1_; (try clear hb); (try clear hb2); (try clear hk); (try clear hi)) | ((with_reducible refine gate_dst (N := 5) rfl ?_); refine box_event ?hg (N := 5) ?hd (cs := #[.int .i64 0, .int .i64 0, .int .i64 0, .bool false, .int .i64 0, .int .i64 0, .int .i64 0, .int .i64 0, .int .i64 0, .int .u32 0, .int .i64 0]) (t := 34) ?hr ?_; (case hd => rfl); (case hg => rfl); (case hr => first | (go_simp; done) | (go_simp; rfl)); intro gb343 hg w13 hbox hb; have n0_ := A0 (blk_below (by (with_reducible repeat (first | refine q1 ?_ _ | refine q2 ?_ | refine q3 ?_ _)); exact BK330.out) hb); have n1_ := A0 (below_step (by repeat (first | (with_reducible first | exact HB.out | apply b1 | apply b2 | apply b3 | refine below_set ?_ GE330.out) | exact HB.out)) hb); have n2_ := A0 (hbox); have n3_ := A0 ((by rw [hg]; exact (below_size (by repeat (first | (with_reducible first | exact HB.out | apply b1 | apply b2 | apply b3 | refine below_set ?_ GE330.out) | exact HB.out))) : w.heap.size ≤ gb343)); have n4_ := n3_; have n5_ := A0 ((by rw [hg]; exact Nat.ne_of_lt (blk_lt (g := gb330) (o := .cells #[.int .i64 a0_0, .int .i64 a0_1, .int .i64 a0_2, .bool a0_3, .int .i64 a0_4, .int .i64 a0_5, .int .i64 a0_6, .int .i64 a0_7, .int .i64 a0_8, .int .u32 a0_9, .int .i64 a0_10] 29 (0, 0)) (by (with_reducible repeat (first | refine q1 ?_ _ | refine q2 ?_ | refine q3 ?_ _)); exact BK330.out)) : gb330 ≠ gb343)); have n6_ := A0 ((by rw [hg]; exact Nat.ne_of_gt (blk_lt (g := gb330) (o := .cells #[.int .i64 a0_0, .int .i64 a0_1, .int .i64 a0_2, .bool a0_3, .int .i64 a0_4, .int .i64 a0_5, .int .i64 a0_6, .int .i64 a0_7, .int .i64 a0_8, .int .u32 a0_9, .int .i64 a0_10] 29 (0, 0)) (by (with_reducible repeat (first | refine q1 ?_ _ | refine q2 ?_ | refine q3 ?_ _)); exact BK330.out)) : gb343 ≠ gb330)); clear BK330; clear HB; have BK330 := n0_; have HB := n1_; have BK343 := n2_; have GW343 := n3_; have GE343 := n4_; have NB330_343 := n5_; have NB343_330 := n6_; clear n0_ n1_ n2_ n3_ n4_ n5_ n6_; clear hb hbox hg; have hnb14 := NB343_330.out; have hnc14 := NB330_343.out; have hcz15 := cc11 BK343.out) | ((with_reducible refine gate_callee (f := 13) rfl ?_); refine goesL_ (some 16) rfl rfl Try.func13 (by kernel_rfl) rfl #[.int .i64 a1] rfl (by (try simp only [List.map_toArray, List.map_cons, List.map_nil]); first | done | rfl | (simp only [List.length_drop, List.length_take]; rfl)) ?_; (with_reducible refine (path_New.calls a1 t344 t345 t346 t347 t348 t349 t350 t351 t352 t353 t354 t355 _ A6.out).mono ?_); rintro e w16 ⟨rfl, hb⟩; refine ⟨_, rfl, ?_⟩; have n0_ := A0 (blk_below (g := gb330) (o := .cells #[.int .i64 a0_0, .int .i64 a0_1, .int .i64 a0_2, .bool a0_3, .int .i64 a0_4, .int .i64 a0_5, .int .i64 a0_6, .int .i64 a0_7, .int .i64 a0_8, .int .u32 a0_9, .int .i64 a0_10] 29 (0, 0)) (by (with_reducible repeat (first | refine q1 ?_ _ | refine q2 ?_ | refine q3 ?_ _)); refine blk_far ?_ NB330_343.out _; (with_reducible repeat (first | refine q1 ?_ _ | refine q2 ?_ | refine q3 ?_ _)); refine blk_far ?_ NB330_343.out _; (with_reducible repeat (first | refine q1 ?_ _ | refine q2 ?_ | refine q3 ?_ _)); refine blk_far ?_ NB330_343.out _; (with_reducible repeat (first | refine q1 ?_ _ | refine q2 ?_ | refine q3 ?_ _)); refine blk_far ?_ NB330_343.out _; (with_reducible repeat (first | refine q1 ?_ _ | refine q2 ?_ | refine q3 ?_ _)); refine blk_far ?_ NB330_343.out _; (with_reducible repeat (first | refine q1 ?_ _ | refine q2 ?_ | refine q3 ?_ _)); refine blk_far ?_ NB330_343.out _; (with_reducible repeat (first | refine q1 ?_ _ | refine q2 ?_ | refine q3 ?_ _)); refine blk_far ?_ NB330_343.out _; (with_reducible repeat (first | refine q1 ?_ _ | refine q2 ?_ | refine q3 ?_ _)); refine blk_far ?_ NB330_343.out _; (with_reducible repeat (first | refine q1 ?_ _ | refine q2 ?_ | refine q3 ?_ _)); refine blk_far ?_ NB330_343.out _; (with_reducible repeat (first | refine q1 ?_ _ | refine q2 ?_ | refine q3 ?_ _)); refine blk_far ?_ NB330_343.out _; (with_reducible repeat (first | refine q1 ?_ _ | refine q2 ?_ | refine q3 ?_ _)); refine blk_far ?_ NB330_343.out _; (with_reducible repeat (first | refine q1 ?_ _ | refine q2 ?_ | refine q3 ?_ _)); exact BK330.out) hb); have n1_ := A0 (blk_below (g := gb343) (o := .cells #[.int .i64 t332, .int .i64 t333, .int .i64 t334, .bool t335, .int .i64 t336, .int .i64 t337, .int .i64 t338, .int .i64 t339, .int .i64 t340, .int .u32 t341, .int .i64 t342] 34 (0, 0)) (by (with_reducible repeat (first | refine q1 ?_ _ | refine q2 ?_ | refine q3 ?_ _)); refine blk_put (cs := #[.int .i64 t332, .int .i64 t333, .int .i64 t334, .bool t335, .int .i64 t336, .int .i64 t337, .int .i64 t338, .int .i64 t339, .int .i64 t340, .int .u32 t341, .int .i64 0]) ?_ 10 _ rfl; (with_reducible repeat (first | refine q1 ?_ _ | refine q2 ?_ | refine q3 ?_ _)); refine blk_put (cs := #[.int .i64 t332, .int .i64 t333, .int .i64 t334, .bool t335, .int .i64 t336, .int .i64 t337, .int .i64 t338, .int .i64 t339, .int .i64 t340, .int .u32 0, .int .i64 0]) ?_ 9 _ rfl; (with_reducible repeat (first | refine q1 ?_ _ | refine q2 ?_ | refine q3 ?_ _)); refine blk_put (cs := #[.int .i64 t332, .int .i64 t333, .int .i64 t334, .bool t335, .int .i64 t336, .int .i64 t337, .int .i64 t338, .int .i64 t339, .int .i64 0, .int .u32 0, .int .i64 0]) ?_ 8 _ rfl; (with_reducible repeat (first | refine q1 ?_ _ | refine q2 ?_ | refine q3 ?_ _)); refine blk_put (cs := #[.int .i64 t332, .int .i64 t333, .int .i64 t334, .bool t335, .int .i64 t336, .int .i64 t337, .int .i64 t338, .int .i64 0, .int .i64 0, .int .u32 0, .int .i64 0]) ?_ 7 _ rfl; (with_reducible repeat (first | refine q1 ?_ _ | refine q2 ?_ | refine q3 ?_ _)); refine blk_put (cs := #[.int .i64 t332, .int .i64 t333, .int .i64 t334, .bool t335, .int .i64 t336, .int .i64 t337, .int .i64 0, .int .i64 0, .int .i64 0, .int .u32 0, .int .i64 0]) ?_ 6 _ rfl; (with_reducible repeat (first | refine q1 ?_ _ | refine q2 ?_ | refine q3 ?_ _)); refine blk_put (cs := #[.int .i64 t332, .int .i64 t333, .int .i64 t334, .bool t335, .int .i64 t336, .int .i64 0, .int .i64 0, .int .i64 0, .int .i64 0, .int .u32 0, .int .i64 0]) ?_ 5 _ rfl; (with_reducible repeat (first | refine q1 ?_ _ | refine q2 ?_ | refine q3 ?_ _)); refine blk_put (cs := #[.int .i64 t332, .int .i64 t333, .int .i64 t334, .bool t335, .int .i64 0, .int .i64 0, .int .i64 0, .int .i64 0, .int .i64 0, .int .u32 0, .int .i64 0]) ?_ 4 _ rfl; (with_reducible repeat (first | refine q1 ?_ _ | refine q2 ?_ | refine q3 ?_ _)); refine blk_put (cs := #[.int .i64 t332, .int .i64 t333, .int .i64 t334, .bool false, .int .i64 0, .int .i64 0, .int .i64 0, .int .i64 0, .int .i64 0, .int .u32 0, .int .i64 0]) ?_ 3 _ rfl; (with_reducible repeat (first | refine q1 ?_ _ | refine q2 ?_ | refine q3 ?_ _)); refine blk_put (cs := #[.int .i64 t332, .int .i64 t333, .int .i64 0, .bool false, .int .i64 0, .int .i64 0, .int .i64 0, .int .i64 0, .int .i64 0, .int .u32 0, .int .i64 0]) ?_ 2 _ rfl; (with_reducible repeat (first | refine q1 ?_ _ | refine q2 ?_ | refine q3 ?_ _)); refine blk_put (cs := #[.int .i64 t332, .int .i64 0, .int .i64 0, .bool false, .int .i64 0, .int .i64 0, .int .i64 0, .int .i64 0, .int .i64 0, .int .u32 0, .int .i64 0]) ?_ 1 _ rfl; (with_reducible repeat (first | refine q1 ?_ _ | refine q2 ?_ | refine q3 ?_ _)); refine blk_put (cs := #[.int .i64 0, .int .i64 0, .int .i64 0, .bool false, .int .i64 0, .int .i64 0, .int .i64 0, .int .i64 0, .int .i64 0, .int .u32 0, .int .i64 0]) ?_ 0 _ rfl; (with_reducible repeat (first | refine q1 ?_ _ | refine q2 ?_ | refine q3 ?_ _)); exact BK343.out) hb); have n2_ := A0 (below_step (by repeat (first | (with_reducible first | exact HB.out | apply b1 | apply b2 | apply b3 | refine below_set ?_ GE330.out | refine below_set ?_ GE343.out) | exact HB.out)) hb); clear BK330; clear BK343; clear HB; have BK330 := n0_; have BK343 := n1_; have HB := n2_; clear n0_ n1_ n2_; (try clear hb); (try clear hb2); (try clear hk); (try clear hi); (try simp only [errW_none, errW_some])) | ((with_reducible refine gate_dst (N := 6) rfl ?_); refine box_event ?hg (N := 6) ?hd (cs := #[.int .i64 0, .int .i64 0, .int .i64 0, .bool false, .int .i64 0, .int .i64 0, .int .i64 0, .int .i64 0, .int .i64 0, .int .u32 0, .int .i64 0]) (t := 34) ?hr ?_; (case hd => rfl); (case hg => rfl); (case hr => first | (go_simp; done) | (go_simp; rfl)); intro gb356 hg w17 hbox hb; have n0_ := A0 (blk_below (by (with_reducible repeat (first | refine q1 ?_ _ | refine q2 ?_ | refine q3 ?_ _)); exact BK330.out) hb); have n1_ := A0 (blk_below (by (with_reducible repeat (first | refine q1 ?_ _ | refine q2 ?_ | refine q3 ?_ _)); exact BK343.out) hb); have n2_ := A0 (below_step (by repeat (first | (with_reducible first | exact HB.out | apply b1 | apply b2 | apply b3 | refine below_set ?_ GE330.out | refine below_set ?_ GE343.out) | exact HB.out)) hb); have n3_ := A0 (hbox); have n4_ := A0 ((by rw [hg]; exact (below_size (by repeat (first | (with_reducible first | exact HB.out | apply b1 | apply b2 | apply b3 | refine below_set ?_ GE330.out | refine below_set ?_ GE343.out) | exact HB.out))) : w.heap.size ≤ gb356)); have n5_ := n4_; have n6_ := A0 ((by rw [hg]; exact Nat.ne_of_lt (blk_lt (g := gb330) (o := .cells #[.int .i64 a0_0, .int .i64 a0_1, .int .i64 a0_2, .bool a0_3, .int .i64 a0_4, .int .i64 a0_5, .int .i64 a0_6, .int .i64 a0_7, .int .i64 a0_8, .int .u32 a0_9, .int .i64 a0_10] 29 (0, 0)) (by (with_reducible repeat (first | refine q1 ?_ _ | refine q2 ?_ | refine q3 ?_ _)); exact BK330.out)) : gb330 ≠ gb356)); have n7_ := A0 ((by rw [hg]; exact Nat.ne_of_gt (blk_lt (g := gb330) (o := .cells #[.int .i64 a0_0, .int .i64 a0_1, .int .i64 a0_2, .bool a0_3, .int .i64 a0_4, .int .i64 a0_5, .int .i64 a0_6, .int .i64 a0_7, .int .i64 a0_8, .int .u32 a0_9, .int .i64 a0_10] 29 (0, 0)) (by (with_reducible repeat (first | refine q1 ?_ _ | refine q2 ?_ | refine q3 ?_ _)); exact BK330.out)) : gb356 ≠ gb330)); have n8_ := A0 ((by rw [hg]; exact Nat.ne_of_lt (blk_lt (g := gb343) (o := .cells #[.int .i64 t332, .int .i64 t333, .int .i64 t334, .bool t335, .int .i64 t336, .int .i64 t337, .int .i64 t338, .int .i64 t339, .int .i64 t340, .int .u32 t341, .int .i64 t342] 34 (0, 0)) (by (with_reducible repeat (first | refine q1 ?_ _ | refine q2 ?_ | refine q3 ?_ _)); exact BK343.out)) : gb343 ≠ gb356)); have n9_ := A0 ((by rw [hg]; exact Nat.ne_of_gt (blk_lt (g := gb343) (o := .cells #[.int .i64 t332, .int .i64 t333, .int .i64 t334, .bool t335, .int .i64 t336, .int .i64 t337, .int .i64 t338, .int .i64 t339, .int .i64 t340, .int .u32 t341, .int .i64 t342] 34 (0, 0)) (by (with_reducible repeat (first | refine q1 ?_ _ | refine q2 ?_ | refine q3 ?_ _)); exact BK343.out)) : gb356 ≠ gb343)); clear BK330; clear BK343; clear HB; have BK330 := n0_; have BK343 := n1_; have HB := n2_; have BK356 := n3_; have GW356 := n4_; have GE356 := n5_; have NB330_356 := n6_; have NB356_330 := n7_; have NB343_356 := n8_; have NB356_343 := n9_; clear n0_ n1_ n2_ n3_ n4_ n5_ n6_ n7_ n8_ n9_; clear hb hbox hg; have hnb18 := NB356_330.out; have hnc18 := NB330_356.out; have hnb19 := NB356_343.out; have hnc19 := NB343_356.out; have hcz20 := cc11 BK356.out) | ((with_reducible refine gate_callee (f := 14) rfl ?_); refine goesL_ (some 20) rfl rfl Try.func14 (by kernel_rfl) rfl #[.int .i64 a1] rfl (by (try simp only [List.map_toArray, List.map_cons, List.map_nil]); first | done | rfl | (simp only [List.length_drop, List.length_take]; rfl)) ?_; (with_reducible refine (weftlineref13_Addr.calls a1 t357 _ A7.out).mono ?_); rintro e w' ⟨rfl, ⟨nd, rfl⟩⟩; refine ⟨_, rfl, ?_⟩))
    (try simp only [Act.put, List.setIfInBounds_toArray, List.set_cons_zero, List.set_cons_succ])
    go_cut [] (fun wc => ∃ (kq : Nat), Aside0 (weftlinelaw13_PathFails.j0 kq a1 a0_0 a0_1 a0_2 a0_3 a0_4 a0_5 a0_6 a0_7 a0_8 a0_9 a0_10 t332 t333 t334 t335 t336 t337 t338 t339 t340 t341 t342 = some r) ∧ Aside0 (kq ≤ k) ∧ Aside0 (wc.heap[gb330]? = some (.cells #[.int .i64 a0_0, .int .i64 a0_1, .int .i64 a0_2, .bool a0_3, .int .i64 a0_4, .int .i64 a0_5, .int .i64 a0_6, .int .i64 a0_7, .int .i64 a0_8, .int .u32 a0_9, .int .i64 a0_10] 29 (0, 0))) ∧ Aside0 (wc.heap[gb343]? = some (.cells #[.int .i64 t332, .int .i64 t333, .int .i64 t334, .bool t335, .int .i64 t336, .int .i64 t337, .int .i64 t338, .int .i64 t339, .int .i64 t340, .int .u32 t341, .int .i64 t342] 34 (0, 0))) ∧ Aside0 (wc.heap[gb356]? = some (.cells #[.int .i64 t344, .int .i64 t345, .int .i64 t346, .bool t347, .int .i64 t348, .int .i64 t349, .int .i64 t350, .int .i64 t351, .int .i64 t352, .int .u32 t353, .int .i64 t354] 34 (0, 0))) ∧ Aside0 (Below w.heap.size w wc))
    case first =>
      have H := HC8.out
      clear HC8
      by_cases c21 : t357 = true
      · subst c21
        have H1 : (if t355.isNone = true then ((weftlinelaw13_Document.f t344 t345 t346 t347 t348 t349 t350 t351 t352 t353 t354).bind fun bt359 => ((weftlineref13_New.f a1).bind fun bt370 => (if ((!(bt359.1 == bt370.1) || (!(bt359.2.1 == bt370.2.1) || (!(bt359.2.2.1 == bt370.2.2.1) || (!(bt359.2.2.2.1 == bt370.2.2.2.1))))) || ((!(bt359.2.2.2.2.1 == bt370.2.2.2.2.1) || (!(bt359.2.2.2.2.2.1 == bt370.2.2.2.2.2.1) || (!(bt359.2.2.2.2.2.2.1 == bt370.2.2.2.2.2.2.1)))) || (!(bt359.2.2.2.2.2.2.2.1 == bt370.2.2.2.2.2.2.2.1) || (!(bt359.2.2.2.2.2.2.2.2.1 == bt370.2.2.2.2.2.2.2.2.1) || (!(bt359.2.2.2.2.2.2.2.2.2.1 == bt370.2.2.2.2.2.2.2.2.2.1) || (!(bt359.2.2.2.2.2.2.2.2.2.2 == bt370.2.2.2.2.2.2.2.2.2.2))))))) = true then (some false) else (weftlinelaw13_PathFails.j0 k a1 a0_0 a0_1 a0_2 a0_3 a0_4 a0_5 a0_6 a0_7 a0_8 a0_9 a0_10 t332 t333 t334 t335 t336 t337 t338 t339 t340 t341 t342)))) else (some false)) = some r := by rw [if_pos rfl] at H; exact H
        clear H
        have H := H1
        clear H1
        rcases t355 with _ | q358
        · have H1 : ((weftlinelaw13_Document.f t344 t345 t346 t347 t348 t349 t350 t351 t352 t353 t354).bind fun bt359 => ((weftlineref13_New.f a1).bind fun bt370 => (if ((!(bt359.1 == bt370.1) || (!(bt359.2.1 == bt370.2.1) || (!(bt359.2.2.1 == bt370.2.2.1) || (!(bt359.2.2.2.1 == bt370.2.2.2.1))))) || ((!(bt359.2.2.2.2.1 == bt370.2.2.2.2.1) || (!(bt359.2.2.2.2.2.1 == bt370.2.2.2.2.2.1) || (!(bt359.2.2.2.2.2.2.1 == bt370.2.2.2.2.2.2.1)))) || (!(bt359.2.2.2.2.2.2.2.1 == bt370.2.2.2.2.2.2.2.1) || (!(bt359.2.2.2.2.2.2.2.2.1 == bt370.2.2.2.2.2.2.2.2.1) || (!(bt359.2.2.2.2.2.2.2.2.2.1 == bt370.2.2.2.2.2.2.2.2.2.1) || (!(bt359.2.2.2.2.2.2.2.2.2.2 == bt370.2.2.2.2.2.2.2.2.2.2))))))) = true then (some false) else (weftlinelaw13_PathFails.j0 k a1 a0_0 a0_1 a0_2 a0_3 a0_4 a0_5 a0_6 a0_7 a0_8 a0_9 a0_10 t332 t333 t334 t335 t336 t337 t338 t339 t340 t341 t342)))) = some r := by rw [if_pos (show (none : Option Int).isNone = true by rfl)] at H; exact H
          clear H
          have H := H1
          clear H1
          try simp only [errW_none, errW_some]
          replace H := Option.bind_eq_some_iff.mp H
          obtain ⟨⟨t359, t360, t361, t362, t363, t364, t365, t366, t367, t368, t369⟩, A220, H⟩ := H
          replace H : ((weftlineref13_New.f a1).bind fun bt370 => (if ((!(t359 == bt370.1) || (!(t360 == bt370.2.1) || (!(t361 == bt370.2.2.1) || (!(t362 == bt370.2.2.2.1))))) || ((!(t363 == bt370.2.2.2.2.1) || (!(t364 == bt370.2.2.2.2.2.1) || (!(t365 == bt370.2.2.2.2.2.2.1)))) || (!(t366 == bt370.2.2.2.2.2.2.2.1) || (!(t367 == bt370.2.2.2.2.2.2.2.2.1) || (!(t368 == bt370.2.2.2.2.2.2.2.2.2.1) || (!(t369 == bt370.2.2.2.2.2.2.2.2.2.2))))))) = true then (some false) else (weftlinelaw13_PathFails.j0 k a1 a0_0 a0_1 a0_2 a0_3 a0_4 a0_5 a0_6 a0_7 a0_8 a0_9 a0_10 t332 t333 t334 t335 t336 t337 t338 t339 t340 t341 t342))) = some r := H
          have A22 := Aside0.mk A220
          clear A220
          replace H := Option.bind_eq_some_iff.mp H
          obtain ⟨⟨t370, t371, t372, t373, t374, t375, t376, t377, t378, t379, t380⟩, A230, H⟩ := H
          replace H : (if ((!(t359 == t370) || (!(t360 == t371) || (!(t361 == t372) || (!(t362 == t373))))) || ((!(t363 == t374) || (!(t364 == t375) || (!(t365 == t376)))) || (!(t366 == t377) || (!(t367 == t378) || (!(t368 == t379) || (!(t369 == t380))))))) = true then (some false) else (weftlinelaw13_PathFails.j0 k a1 a0_0 a0_1 a0_2 a0_3 a0_4 a0_5 a0_6 a0_7 a0_8 a0_9 a0_10 t332 t333 t334 t335 t336 t337 t338 t339 t340 t341 t342)) = some r := H
          have A23 := Aside0.mk A230
          clear A230
          by_cases c24 : ((!(t359 == t370) || (!(t360 == t371) || (!(t361 == t372) || (!(t362 == t373))))) || ((!(t363 == t374) || (!(t364 == t375) || (!(t365 == t376)))) || (!(t366 == t377) || (!(t367 == t378) || (!(t368 == t379) || (!(t369 == t380))))))) = true
          · rw [if_pos c24] at H
            rw [hr0.out] at H
            exact absurd H (by simp)
          · rw [if_neg c24] at H
            have c24b0 : ((!(t359 == t370) || (!(t360 == t371) || (!(t361 == t372) || (!(t362 == t373))))) || ((!(t363 == t374) || (!(t364 == t375) || (!(t365 == t376)))) || (!(t366 == t377) || (!(t367 == t378) || (!(t368 == t379) || (!(t369 == t380))))))) = false := by simpa using c24
            clear c24
            (first | rw [c24b0] | (simp only [i64_w, i32_w]; rw [c24b0]) | skip)
            have H' := Aside0.mk H
            clear H
            have hnb30 := NB356_330.out
            have hnc30 := NB330_356.out
            have hnb31 := NB356_343.out
            have hnc31 := NB343_356.out
            have hcz32 := cc11 BK356.out
            go_wp2_with (first | (go_at_call 16; (with_reducible refine (weftlinelaw13_Document.calls t344 t345 t346 t347 t348 t349 t350 t351 t352 t353 t354 t359 t360 t361 t362 t363 t364 t365 t366 t367 t368 t369 _ A22.out).mono ?_); rintro e w33 ⟨rfl, hb⟩; have n0_ := A0 (blk_below (g := gb330) (o := .cells #[.int .i64 a0_0, .int .i64 a0_1, .int .i64 a0_2, .bool a0_3, .int .i64 a0_4, .int .i64 a0_5, .int .i64 a0_6, .int .i64 a0_7, .int .i64 a0_8, .int .u32 a0_9, .int .i64 a0_10] 29 (0, 0)) (by (with_reducible repeat (first | refine q1 ?_ _ | refine q2 ?_ | refine q3 ?_ _)); refine blk_far ?_ NB330_356.out _; (with_reducible repeat (first | refine q1 ?_ _ | refine q2 ?_ | refine q3 ?_ _)); refine blk_far ?_ NB330_356.out _; (with_reducible repeat (first | refine q1 ?_ _ | refine q2 ?_ | refine q3 ?_ _)); refine blk_far ?_ NB330_356.out _; (with_reducible repeat (first | refine q1 ?_ _ | refine q2 ?_ | refine q3 ?_ _)); refine blk_far ?_ NB330_356.out _; (with_reducible repeat (first | refine q1 ?_ _ | refine q2 ?_ | refine q3 ?_ _)); refine blk_far ?_ NB330_356.out _; (with_reducible repeat (first | refine q1 ?_ _ | refine q2 ?_ | refine q3 ?_ _)); refine blk_far ?_ NB330_356.out _; (with_reducible repeat (first | refine q1 ?_ _ | refine q2 ?_ | refine q3 ?_ _)); refine blk_far ?_ NB330_356.out _; (with_reducible repeat (first | refine q1 ?_ _ | refine q2 ?_ | refine q3 ?_ _)); refine blk_far ?_ NB330_356.out _; (with_reducible repeat (first | refine q1 ?_ _ | refine q2 ?_ | refine q3 ?_ _)); refine blk_far ?_ NB330_356.out _; (with_reducible repeat (first | refine q1 ?_ _ | refine q2 ?_ | refine q3 ?_ _)); refine blk_far ?_ NB330_356.out _; (with_reducible repeat (first | refine q1 ?_ _ | refine q2 ?_ | refine q3 ?_ _)); refine blk_far ?_ NB330_356.out _; (with_reducible repeat (first | refine q1 ?_ _ | refine q2 ?_ | refine q3 ?_ _)); exact BK330.out) hb); have n1_ := A0 (blk_below (g := gb343) (o := .cells #[.int .i64 t332, .int .i64 t333, .int .i64 t334, .bool t335, .int .i64 t336, .int .i64 t337, .int .i64 t338, .int .i64 t339, .int .i64 t340, .int .u32 t341, .int .i64 t342] 34 (0, 0)) (by (with_reducible repeat (first | refine q1 ?_ _ | refine q2 ?_ | refine q3 ?_ _)); refine blk_far ?_ NB343_356.out _; (with_reducible repeat (first | refine q1 ?_ _ | refine q2 ?_ | refine q3 ?_ _)); refine blk_far ?_ NB343_356.out _; (with_reducible repeat (first | refine q1 ?_ _ | refine q2 ?_ | refine q3 ?_ _)); refine blk_far ?_ NB343_356.out _; (with_reducible repeat (first | refine q1 ?_ _ | refine q2 ?_ | refine q3 ?_ _)); refine blk_far ?_ NB343_356.out _; (with_reducible repeat (first | refine q1 ?_ _ | refine q2 ?_ | refine q3 ?_ _)); refine blk_far ?_ NB343_356.out _; (with_reducible repeat (first | refine q1 ?_ _ | refine q2 ?_ | refine q3 ?_ _)); refine blk_far ?_ NB343_356.out _; (with_reducible repeat (first | refine q1 ?_ _ | refine q2 ?_ | refine q3 ?_ _)); refine blk_far ?_ NB343_356.out _; (with_reducible repeat (first | refine q1 ?_ _ | refine q2 ?_ | refine q3 ?_ _)); refine blk_far ?_ NB343_356.out _; (with_reducible repeat (first | refine q1 ?_ _ | refine q2 ?_ | refine q3 ?_ _)); refine blk_far ?_ NB343_356.out _; (with_reducible repeat (first | refine q1 ?_ _ | refine q2 ?_ | refine q3 ?_ _)); refine blk_far ?_ NB343_356.out _; (with_reducible repeat (first | refine q1 ?_ _ | refine q2 ?_ | refine q3 ?_ _)); refine blk_far ?_ NB343_356.out _; (with_reducible repeat (first | refine q1 ?_ _ | refine q2 ?_ | refine q3 ?_ _)); exact BK343.out) hb); have n2_ := A0 (blk_below (g := gb356) (o := .cells #[.int .i64 t344, .int .i64 t345, .int .i64 t346, .bool t347, .int .i64 t348, .int .i64 t349, .int .i64 t350, .int .i64 t351, .int .i64 t352, .int .u32 t353, .int .i64 t354] 34 (0, 0)) (by (with_reducible repeat (first | refine q1 ?_ _ | refine q2 ?_ | refine q3 ?_ _)); refine blk_put (cs := #[.int .i64 t344, .int .i64 t345, .int .i64 t346, .bool t347, .int .i64 t348, .int .i64 t349, .int .i64 t350, .int .i64 t351, .int .i64 t352, .int .u32 t353, .int .i64 0]) ?_ 10 _ rfl; (with_reducible repeat (first | refine q1 ?_ _ | refine q2 ?_ | refine q3 ?_ _)); refine blk_put (cs := #[.int .i64 t344, .int .i64 t345, .int .i64 t346, .bool t347, .int .i64 t348, .int .i64 t349, .int .i64 t350, .int .i64 t351, .int .i64 t352, .int .u32 0, .int .i64 0]) ?_ 9 _ rfl; (with_reducible repeat (first | refine q1 ?_ _ | refine q2 ?_ | refine q3 ?_ _)); refine blk_put (cs := #[.int .i64 t344, .int .i64 t345, .int .i64 t346, .bool t347, .int .i64 t348, .int .i64 t349, .int .i64 t350, .int .i64 t351, .int .i64 0, .int .u32 0, .int .i64 0]) ?_ 8 _ rfl; (with_reducible repeat (first | refine q1 ?_ _ | refine q2 ?_ | refine q3 ?_ _)); refine blk_put (cs := #[.int .i64 t344, .int .i64 t345, .int .i64 t346, .bool t347, .int .i64 t348, .int .i64 t349, .int .i64 t350, .int .i64 0, .int .i64 0, .int .u32 0, .int .i64 0]) ?_ 7 _ rfl; (with_reducible repeat (first | refine q1 ?_ _ | refine q2 ?_ | refine q3 ?_ _)); refine blk_put (cs := #[.int .i64 t344, .int .i64 t345, .int .i64 t346, .bool t347, .int .i64 t348, .int .i64 t349, .int .i64 0, .int .i64 0, .int .i64 0, .int .u32 0, .int .i64 0]) ?_ 6 _ rfl; (with_reducible repeat (first | refine q1 ?_ _ | refine q2 ?_ | refine q3 ?_ _)); refine blk_put (cs := #[.int .i64 t344, .int .i64 t345, .int .i64 t346, .bool t347, .int .i64 t348, .int .i64 0, .int .i64 0, .int .i64 0, .int .i64 0, .int .u32 0, .int .i64 0]) ?_ 5 _ rfl; (with_reducible repeat (first | refine q1 ?_ _ | refine q2 ?_ | refine q3 ?_ _)); refine blk_put (cs := #[.int .i64 t344, .int .i64 t345, .int .i64 t346, .bool t347, .int .i64 0, .int .i64 0, .int .i64 0, .int .i64 0, .int .i64 0, .int .u32 0, .int .i64 0]) ?_ 4 _ rfl; (with_reducible repeat (first | refine q1 ?_ _ | refine q2 ?_ | refine q3 ?_ _)); refine blk_put (cs := #[.int .i64 t344, .int .i64 t345, .int .i64 t346, .bool false, .int .i64 0, .int .i64 0, .int .i64 0, .int .i64 0, .int .i64 0, .int .u32 0, .int .i64 0]) ?_ 3 _ rfl; (with_reducible repeat (first | refine q1 ?_ _ | refine q2 ?_ | refine q3 ?_ _)); refine blk_put (cs := #[.int .i64 t344, .int .i64 t345, .int .i64 0, .bool false, .int .i64 0, .int .i64 0, .int .i64 0, .int .i64 0, .int .i64 0, .int .u32 0, .int .i64 0]) ?_ 2 _ rfl; (with_reducible repeat (first | refine q1 ?_ _ | refine q2 ?_ | refine q3 ?_ _)); refine blk_put (cs := #[.int .i64 t344, .int .i64 0, .int .i64 0, .bool false, .int .i64 0, .int .i64 0, .int .i64 0, .int .i64 0, .int .i64 0, .int .u32 0, .int .i64 0]) ?_ 1 _ rfl; (with_reducible repeat (first | refine q1 ?_ _ | refine q2 ?_ | refine q3 ?_ _)); refine blk_put (cs := #[.int .i64 0, .int .i64 0, .int .i64 0, .bool false, .int .i64 0, .int .i64 0, .int .i64 0, .int .i64 0, .int .i64 0, .int .u32 0, .int .i64 0]) ?_ 0 _ rfl; (with_reducible repeat (first | refine q1 ?_ _ | refine q2 ?_ | refine q3 ?_ _)); exact BK356.out) hb); have n3_ := A0 (below_step (by repeat (first | (with_reducible first | exact HB.out | apply b1 | apply b2 | apply b3 | refine below_set ?_ GE330.out | refine below_set ?_ GE343.out | refine below_set ?_ GE356.out) | exact HB.out)) hb); clear BK330; clear BK343; clear BK356; clear HB; have BK330 := n0_; have BK343 := n1_; have BK356 := n2_; have HB := n3_; clear n0_ n1_ n2_ n3_; (try clear hb); (try clear hb2); (try clear hk); (try clear hi)) | (go_at_call 17; (with_reducible refine (weftlineref13_New.calls a1 t370 t371 t372 t373 t374 t375 t376 t377 t378 t379 t380 _ A23.out).mono ?_); rintro e w34 ⟨rfl, hb⟩; have n0_ := A0 (blk_below (by (with_reducible repeat (first | refine q1 ?_ _ | refine q2 ?_ | refine q3 ?_ _)); exact BK330.out) hb); have n1_ := A0 (blk_below (by (with_reducible repeat (first | refine q1 ?_ _ | refine q2 ?_ | refine q3 ?_ _)); exact BK343.out) hb); have n2_ := A0 (blk_below (by (with_reducible repeat (first | refine q1 ?_ _ | refine q2 ?_ | refine q3 ?_ _)); exact BK356.out) hb); have n3_ := A0 (below_step (by repeat (first | (with_reducible first | exact HB.out | apply b1 | apply b2 | apply b3 | refine below_set ?_ GE330.out | refine below_set ?_ GE343.out | refine below_set ?_ GE356.out) | exact HB.out)) hb); clear BK330; clear BK343; clear BK356; clear HB; have BK330 := n0_; have BK343 := n1_; have BK356 := n2_; have HB := n3_; clear n0_ n1_ n2_ n3_; (try clear hb); (try clear hb2); (try clear hk); (try clear hi)))
            go_meet
            case rel => exact ⟨_, H', ⟨by first | omega | exact Nat.le_refl _⟩, ⟨by (with_reducible repeat (first | refine q1 ?_ _ | refine q2 ?_ | refine q3 ?_ _)); exact BK330.out⟩, ⟨by (with_reducible repeat (first | refine q1 ?_ _ | refine q2 ?_ | refine q3 ?_ _)); exact BK343.out⟩, ⟨by (with_reducible repeat (first | refine q1 ?_ _ | refine q2 ?_ | refine q3 ?_ _)); exact BK356.out⟩, ⟨by repeat (first | (with_reducible first | exact HB.out | apply b1 | apply b2 | apply b3 | refine below_set ?_ GE330.out | refine below_set ?_ GE343.out | refine below_set ?_ GE356.out) | exact HB.out)⟩⟩
        · have H1 : (some false) = some r := by rw [if_neg (show ¬ (some q358).isNone = true by simp)] at H; exact H
          rw [hr0.out] at H1
          exact absurd H1 (by simp)
      · replace c21 := Bool.eq_false_iff.mpr c21
        subst c21
        have H1 : ((weftlinenum_Is.f t355 1).bind fun t381 => (if t381 = true then (if ((!(t344 == 0) || (!(t345 == 0) || (!(t346 == 0) || (t347)))) || ((!(t348 == 0) || (!(t349 == 0) || (!(t350 == 0)))) || (!(t351 == 0) || (!(t352 == 0) || (!(t353 == 0) || (!(t354 == 0))))))) = true then (some false) else (weftlinelaw13_PathFails.j0 k a1 a0_0 a0_1 a0_2 a0_3 a0_4 a0_5 a0_6 a0_7 a0_8 a0_9 a0_10 t332 t333 t334 t335 t336 t337 t338 t339 t340 t341 t342)) else (some false))) = some r := by rw [if_neg (show ¬ (false = true) by decide)] at H; exact H
        clear H
        have H := H1
        clear H1
        replace H := Option.bind_eq_some_iff.mp H
        obtain ⟨t381, A350, H⟩ := H
        replace H : (if t381 = true then (if ((!(t344 == 0) || (!(t345 == 0) || (!(t346 == 0) || (t347)))) || ((!(t348 == 0) || (!(t349 == 0) || (!(t350 == 0)))) || (!(t351 == 0) || (!(t352 == 0) || (!(t353 == 0) || (!(t354 == 0))))))) = true then (some false) else (weftlinelaw13_PathFails.j0 k a1 a0_0 a0_1 a0_2 a0_3 a0_4 a0_5 a0_6 a0_7 a0_8 a0_9 a0_10 t332 t333 t334 t335 t336 t337 t338 t339 t340 t341 t342)) else (some false)) = some r := H
        have A35 := Aside0.mk A350
        clear A350
        by_cases c36 : t381 = true
        · subst c36
          have H1 : (if ((!(t344 == 0) || (!(t345 == 0) || (!(t346 == 0) || (t347)))) || ((!(t348 == 0) || (!(t349 == 0) || (!(t350 == 0)))) || (!(t351 == 0) || (!(t352 == 0) || (!(t353 == 0) || (!(t354 == 0))))))) = true then (some false) else (weftlinelaw13_PathFails.j0 k a1 a0_0 a0_1 a0_2 a0_3 a0_4 a0_5 a0_6 a0_7 a0_8 a0_9 a0_10 t332 t333 t334 t335 t336 t337 t338 t339 t340 t341 t342)) = some r := by rw [if_pos rfl] at H; exact H
          clear H
          have H := H1
          clear H1
          by_cases c37 : ((!(t344 == 0) || (!(t345 == 0) || (!(t346 == 0) || (t347)))) || ((!(t348 == 0) || (!(t349 == 0) || (!(t350 == 0)))) || (!(t351 == 0) || (!(t352 == 0) || (!(t353 == 0) || (!(t354 == 0))))))) = true
          · rw [if_pos c37] at H
            rw [hr0.out] at H
            exact absurd H (by simp)
          · rw [if_neg c37] at H
            have c37b0 : ((!(t344 == 0) || (!(t345 == 0) || (!(t346 == 0) || (t347)))) || ((!(t348 == 0) || (!(t349 == 0) || (!(t350 == 0)))) || (!(t351 == 0) || (!(t352 == 0) || (!(t353 == 0) || (!(t354 == 0))))))) = false := by simpa using c37
            clear c37
            have H' := Aside0.mk H
            clear H
            have CA35 := fun W => weftlinenum_Is.calls t355 1 true W A35.out
            try simp only [errW_none, errW_some] at CA35
            go_wp2_with (first | (go_at_call 15; (with_reducible refine (CA35 _).mono ?_); rintro e w' ⟨rfl, ⟨nd, rfl⟩⟩; have hnb41 := NB356_330.out; have hnc41 := NB330_356.out; have hnb42 := NB356_343.out; have hnc42 := NB343_356.out; have hcz43 := cc11 BK356.out))
            go_meet
            case rel => exact ⟨_, H', ⟨by first | omega | exact Nat.le_refl _⟩, ⟨by (with_reducible repeat (first | refine q1 ?_ _ | refine q2 ?_ | refine q3 ?_ _)); refine blk_far ?_ NB330_356.out _; (with_reducible repeat (first | refine q1 ?_ _ | refine q2 ?_ | refine q3 ?_ _)); refine blk_far ?_ NB330_356.out _; (with_reducible repeat (first | refine q1 ?_ _ | refine q2 ?_ | refine q3 ?_ _)); refine blk_far ?_ NB330_356.out _; (with_reducible repeat (first | refine q1 ?_ _ | refine q2 ?_ | refine q3 ?_ _)); refine blk_far ?_ NB330_356.out _; (with_reducible repeat (first | refine q1 ?_ _ | refine q2 ?_ | refine q3 ?_ _)); refine blk_far ?_ NB330_356.out _; (with_reducible repeat (first | refine q1 ?_ _ | refine q2 ?_ | refine q3 ?_ _)); refine blk_far ?_ NB330_356.out _; (with_reducible repeat (first | refine q1 ?_ _ | refine q2 ?_ | refine q3 ?_ _)); refine blk_far ?_ NB330_356.out _; (with_reducible repeat (first | refine q1 ?_ _ | refine q2 ?_ | refine q3 ?_ _)); refine blk_far ?_ NB330_356.out _; (with_reducible repeat (first | refine q1 ?_ _ | refine q2 ?_ | refine q3 ?_ _)); refine blk_far ?_ NB330_356.out _; (with_reducible repeat (first | refine q1 ?_ _ | refine q2 ?_ | refine q3 ?_ _)); refine blk_far ?_ NB330_356.out _; (with_reducible repeat (first | refine q1 ?_ _ | refine q2 ?_ | refine q3 ?_ _)); refine blk_far ?_ NB330_356.out _; (with_reducible repeat (first | refine q1 ?_ _ | refine q2 ?_ | refine q3 ?_ _)); exact BK330.out⟩, ⟨by (with_reducible repeat (first | refine q1 ?_ _ | refine q2 ?_ | refine q3 ?_ _)); refine blk_far ?_ NB343_356.out _; (with_reducible repeat (first | refine q1 ?_ _ | refine q2 ?_ | refine q3 ?_ _)); refine blk_far ?_ NB343_356.out _; (with_reducible repeat (first | refine q1 ?_ _ | refine q2 ?_ | refine q3 ?_ _)); refine blk_far ?_ NB343_356.out _; (with_reducible repeat (first | refine q1 ?_ _ | refine q2 ?_ | refine q3 ?_ _)); refine blk_far ?_ NB343_356.out _; (with_reducible repeat (first | refine q1 ?_ _ | refine q2 ?_ | refine q3 ?_ _)); refine blk_far ?_ NB343_356.out _; (with_reducible repeat (first | refine q1 ?_ _ | refine q2 ?_ | refine q3 ?_ _)); refine blk_far ?_ NB343_356.out _; (with_reducible repeat (first | refine q1 ?_ _ | refine q2 ?_ | refine q3 ?_ _)); refine blk_far ?_ NB343_356.out _; (with_reducible repeat (first | refine q1 ?_ _ | refine q2 ?_ | refine q3 ?_ _)); refine blk_far ?_ NB343_356.out _; (with_reducible repeat (first | refine q1 ?_ _ | refine q2 ?_ | refine q3 ?_ _)); refine blk_far ?_ NB343_356.out _; (with_reducible repeat (first | refine q1 ?_ _ | refine q2 ?_ | refine q3 ?_ _)); refine blk_far ?_ NB343_356.out _; (with_reducible repeat (first | refine q1 ?_ _ | refine q2 ?_ | refine q3 ?_ _)); refine blk_far ?_ NB343_356.out _; (with_reducible repeat (first | refine q1 ?_ _ | refine q2 ?_ | refine q3 ?_ _)); exact BK343.out⟩, ⟨by (with_reducible repeat (first | refine q1 ?_ _ | refine q2 ?_ | refine q3 ?_ _)); refine blk_put (cs := #[.int .i64 t344, .int .i64 t345, .int .i64 t346, .bool t347, .int .i64 t348, .int .i64 t349, .int .i64 t350, .int .i64 t351, .int .i64 t352, .int .u32 t353, .int .i64 0]) ?_ 10 _ rfl; (with_reducible repeat (first | refine q1 ?_ _ | refine q2 ?_ | refine q3 ?_ _)); refine blk_put (cs := #[.int .i64 t344, .int .i64 t345, .int .i64 t346, .bool t347, .int .i64 t348, .int .i64 t349, .int .i64 t350, .int .i64 t351, .int .i64 t352, .int .u32 0, .int .i64 0]) ?_ 9 _ rfl; (with_reducible repeat (first | refine q1 ?_ _ | refine q2 ?_ | refine q3 ?_ _)); refine blk_put (cs := #[.int .i64 t344, .int .i64 t345, .int .i64 t346, .bool t347, .int .i64 t348, .int .i64 t349, .int .i64 t350, .int .i64 t351, .int .i64 0, .int .u32 0, .int .i64 0]) ?_ 8 _ rfl; (with_reducible repeat (first | refine q1 ?_ _ | refine q2 ?_ | refine q3 ?_ _)); refine blk_put (cs := #[.int .i64 t344, .int .i64 t345, .int .i64 t346, .bool t347, .int .i64 t348, .int .i64 t349, .int .i64 t350, .int .i64 0, .int .i64 0, .int .u32 0, .int .i64 0]) ?_ 7 _ rfl; (with_reducible repeat (first | refine q1 ?_ _ | refine q2 ?_ | refine q3 ?_ _)); refine blk_put (cs := #[.int .i64 t344, .int .i64 t345, .int .i64 t346, .bool t347, .int .i64 t348, .int .i64 t349, .int .i64 0, .int .i64 0, .int .i64 0, .int .u32 0, .int .i64 0]) ?_ 6 _ rfl; (with_reducible repeat (first | refine q1 ?_ _ | refine q2 ?_ | refine q3 ?_ _)); refine blk_put (cs := #[.int .i64 t344, .int .i64 t345, .int .i64 t346, .bool t347, .int .i64 t348, .int .i64 0, .int .i64 0, .int .i64 0, .int .i64 0, .int .u32 0, .int .i64 0]) ?_ 5 _ rfl; (with_reducible repeat (first | refine q1 ?_ _ | refine q2 ?_ | refine q3 ?_ _)); refine blk_put (cs := #[.int .i64 t344, .int .i64 t345, .int .i64 t346, .bool t347, .int .i64 0, .int .i64 0, .int .i64 0, .int .i64 0, .int .i64 0, .int .u32 0, .int .i64 0]) ?_ 4 _ rfl; (with_reducible repeat (first | refine q1 ?_ _ | refine q2 ?_ | refine q3 ?_ _)); refine blk_put (cs := #[.int .i64 t344, .int .i64 t345, .int .i64 t346, .bool false, .int .i64 0, .int .i64 0, .int .i64 0, .int .i64 0, .int .i64 0, .int .u32 0, .int .i64 0]) ?_ 3 _ rfl; (with_reducible repeat (first | refine q1 ?_ _ | refine q2 ?_ | refine q3 ?_ _)); refine blk_put (cs := #[.int .i64 t344, .int .i64 t345, .int .i64 0, .bool false, .int .i64 0, .int .i64 0, .int .i64 0, .int .i64 0, .int .i64 0, .int .u32 0, .int .i64 0]) ?_ 2 _ rfl; (with_reducible repeat (first | refine q1 ?_ _ | refine q2 ?_ | refine q3 ?_ _)); refine blk_put (cs := #[.int .i64 t344, .int .i64 0, .int .i64 0, .bool false, .int .i64 0, .int .i64 0, .int .i64 0, .int .i64 0, .int .i64 0, .int .u32 0, .int .i64 0]) ?_ 1 _ rfl; (with_reducible repeat (first | refine q1 ?_ _ | refine q2 ?_ | refine q3 ?_ _)); refine blk_put (cs := #[.int .i64 0, .int .i64 0, .int .i64 0, .bool false, .int .i64 0, .int .i64 0, .int .i64 0, .int .i64 0, .int .i64 0, .int .u32 0, .int .i64 0]) ?_ 0 _ rfl; (with_reducible repeat (first | refine q1 ?_ _ | refine q2 ?_ | refine q3 ?_ _)); exact BK356.out⟩, ⟨by repeat (first | (with_reducible first | exact HB.out | apply b1 | apply b2 | apply b3 | refine below_set ?_ GE330.out | refine below_set ?_ GE343.out | refine below_set ?_ GE356.out) | exact HB.out)⟩⟩
        · replace c36 := Bool.eq_false_iff.mpr c36
          subst c36
          have H1 : (some false) = some r := by rw [if_neg (show ¬ (false = true) by decide)] at H; exact H
          rw [hr0.out] at H1
          exact absurd H1 (by simp)
    case rest =>
      clear HC8
      try clear c1
      try clear c2
      try clear p2
      try clear c3
      try clear q3
      try clear c4
      try clear c11
      try clear c12
      try clear c13
      try clear c14
      try clear c18
      try clear c19
      try clear c21
      try clear c24
      try clear c24b0
      try clear c25
      try clear c26
      try clear c30
      try clear c31
      try clear q35
      try clear c36
      try clear c37
      try clear c37b0
      try clear c38
      try clear c39
      try clear c41
      try clear c42
      try clear hcz11_0
      try clear hcz11_1
      try clear hcz11_10
      try clear hcz11_2
      try clear hcz11_3
      try clear hcz11_4
      try clear hcz11_5
      try clear hcz11_6
      try clear hcz11_7
      try clear hcz11_8
      try clear hcz11_9
      try clear hcz15_0
      try clear hcz15_1
      try clear hcz15_10
      try clear hcz15_2
      try clear hcz15_3
      try clear hcz15_4
      try clear hcz15_5
      try clear hcz15_6
      try clear hcz15_7
      try clear hcz15_8
      try clear hcz15_9
      try clear hcz20_0
      try clear hcz20_1
      try clear hcz20_10
      try clear hcz20_2
      try clear hcz20_3
      try clear hcz20_4
      try clear hcz20_5
      try clear hcz20_6
      try clear hcz20_7
      try clear hcz20_8
      try clear hcz20_9
      try clear hcz27_0
      try clear hcz27_1
      try clear hcz27_10
      try clear hcz27_2
      try clear hcz27_3
      try clear hcz27_4
      try clear hcz27_5
      try clear hcz27_6
      try clear hcz27_7
      try clear hcz27_8
      try clear hcz27_9
      try clear hcz32_0
      try clear hcz32_1
      try clear hcz32_10
      try clear hcz32_2
      try clear hcz32_3
      try clear hcz32_4
      try clear hcz32_5
      try clear hcz32_6
      try clear hcz32_7
      try clear hcz32_8
      try clear hcz32_9
      try clear hcz40_0
      try clear hcz40_1
      try clear hcz40_10
      try clear hcz40_2
      try clear hcz40_3
      try clear hcz40_4
      try clear hcz40_5
      try clear hcz40_6
      try clear hcz40_7
      try clear hcz40_8
      try clear hcz40_9
      try clear hcz43_0
      try clear hcz43_1
      try clear hcz43_10
      try clear hcz43_2
      try clear hcz43_3
      try clear hcz43_4
      try clear hcz43_5
      try clear hcz43_6
      try clear hcz43_7
      try clear hcz43_8
      try clear hcz43_9
      try clear hfz11_0
      try clear hfz11_1
      try clear hfz11_10
      try clear hfz11_2
      try clear hfz11_3
      try clear hfz11_4
      try clear hfz11_5
      try clear hfz11_6
      try clear hfz11_7
      try clear hfz11_8
      try clear hfz11_9
      try clear hfz15_0
      try clear hfz15_1
      try clear hfz15_10
      try clear hfz15_2
      try clear hfz15_3
      try clear hfz15_4
      try clear hfz15_5
      try clear hfz15_6
      try clear hfz15_7
      try clear hfz15_8
      try clear hfz15_9
      try clear hfz20_0
      try clear hfz20_1
      try clear hfz20_10
      try clear hfz20_2
      try clear hfz20_3
      try clear hfz20_4
      try clear hfz20_5
      try clear hfz20_6
      try clear hfz20_7
      try clear hfz20_8
      try clear hfz20_9
      try clear hfz27_0
      try clear hfz27_1
      try clear hfz27_10
      try clear hfz27_2
      try clear hfz27_3
      try clear hfz27_4
      try clear hfz27_5
      try clear hfz27_6
      try clear hfz27_7
      try clear hfz27_8
      try clear hfz27_9
      try clear hfz32_0
      try clear hfz32_1
      try clear hfz32_10
      try clear hfz32_2
      try clear hfz32_3
      try clear hfz32_4
      try clear hfz32_5
      try clear hfz32_6
      try clear hfz32_7
      try clear hfz32_8
      try clear hfz32_9
      try clear hfz40_0
      try clear hfz40_1
      try clear hfz40_10
      try clear hfz40_2
      try clear hfz40_3
      try clear hfz40_4
      try clear hfz40_5
      try clear hfz40_6
      try clear hfz40_7
      try clear hfz40_8
      try clear hfz40_9
      try clear hfz43_0
      try clear hfz43_1
      try clear hfz43_10
      try clear hfz43_2
      try clear hfz43_3
      try clear hfz43_4
      try clear hfz43_5
      try clear hfz43_6
      try clear hfz43_7
      try clear hfz43_8
      try clear hfz43_9
      try clear q358
      obtain ⟨kq, HA, HJ7, BK330, BK343, BK356, HB⟩ := hcut
      cases kq with
      | zero => exact absurd HA.out (by simp [weftlinelaw13_PathFails.j0])
      | succ kj7 =>
        have H := HA.out
        clear HA
        simp only [weftlinelaw13_PathFails.j0] at H
        replace H := Option.bind_eq_some_iff.mp H
        obtain ⟨⟨t382, t383, t384, t385, t386, t387, t388, t389, t390, t391, t392, t393⟩, A440, H⟩ := H
        replace H : ((weftlineref13_Good.f kj7 a0_0 a0_1 a0_2 a0_3 a0_4 a0_5 a0_6 a0_7 a0_8 a0_9 a0_10).bind fun t395 => (if t395 = true then ((weftlineref13_Addr.f a1).bind fun t396 => (weftlinelaw13_PathFails.j1 kj7 a1 t393 (!t396) a0_0 a0_1 a0_2 a0_3 a0_4 a0_5 a0_6 a0_7 a0_8 a0_9 a0_10 t332 t333 t334 t335 t336 t337 t338 t339 t340 t341 t342 t382 t383 t384 t385 t386 t387 t388 t389 t390 t391 t392)) else (weftlinelaw13_PathFails.j1 kj7 a1 t393 true a0_0 a0_1 a0_2 a0_3 a0_4 a0_5 a0_6 a0_7 a0_8 a0_9 a0_10 t332 t333 t334 t335 t336 t337 t338 t339 t340 t341 t342 t382 t383 t384 t385 t386 t387 t388 t389 t390 t391 t392))) = some r := H
        have A44 := Aside0.mk A440
        clear A440
        have HC45 := Aside0.mk H
        clear H
        have hnb46 := NB343_330.out
        have hnc46 := NB330_343.out
        have hnb47 := NB343_356.out
        have hnc47 := NB356_343.out
        have hcz48 := cc11 BK343.out
        go_upto_region 11 with (first | ((with_reducible refine gate_callee (f := 18) rfl ?_); refine goesL_ (some 42) rfl rfl Try.func18 (by kernel_rfl) rfl #[.agg #[.int .i64 t332, .int .i64 t333, .int .i64 t334, .bool t335, .int .i64 t336, .int .i64 t337, .int .i64 t338, .int .i64 t339, .int .i64 t340, .int .u32 t341, .int .i64 t342], .int .i64 a1] rfl (by (try simp only [List.map_toArray, List.map_cons, List.map_nil]); first | done | rfl | (simp only [List.length_drop, List.length_take]; rfl)) ?_; (with_reducible refine (path_Path_To.calls kj7 t332 t333 t334 t335 t336 t337 t338 t339 t340 t341 t342 a1 t382 t383 t384 t385 t386 t387 t388 t389 t390 t391 t392 t393 _ A44.out).mono ?_); rintro e w49 ⟨rfl, hb⟩; refine ⟨_, rfl, ?_⟩; have n0_ := A0 (blk_below (by (with_reducible repeat (first | refine q1 ?_ _ | refine q2 ?_ | refine q3 ?_ _)); exact BK330.out) hb); have n1_ := A0 (blk_below (by (with_reducible repeat (first | refine q1 ?_ _ | refine q2 ?_ | refine q3 ?_ _)); exact BK343.out) hb); have n2_ := A0 (blk_below (by (with_reducible repeat (first | refine q1 ?_ _ | refine q2 ?_ | refine q3 ?_ _)); exact BK356.out) hb); have n3_ := A0 (below_step (by repeat (first | (with_reducible first | exact HB.out | apply b1 | apply b2 | apply b3 | refine below_set ?_ GE330.out | refine below_set ?_ GE343.out | refine below_set ?_ GE356.out) | exact HB.out)) hb); clear BK330; clear BK343; clear BK356; clear HB; have BK330 := n0_; have BK343 := n1_; have BK356 := n2_; have HB := n3_; clear n0_ n1_ n2_ n3_; (try clear hb); (try clear hb2); (try clear hk); (try clear hi); (try simp only [errW_none, errW_some])) | ((with_reducible refine gate_dst (N := 8) rfl ?_); refine box_event ?hg (N := 8) ?hd (cs := #[.int .i64 0, .int .i64 0, .int .i64 0, .bool false, .int .i64 0, .int .i64 0, .int .i64 0, .int .i64 0, .int .i64 0, .int .u32 0, .int .i64 0]) (t := 34) ?hr ?_; (case hd => rfl); (case hg => rfl); (case hr => first | (go_simp; done) | (go_simp; rfl)); intro gb394 hg w50 hbox hb; have n0_ := A0 (blk_below (by (with_reducible repeat (first | refine q1 ?_ _ | refine q2 ?_ | refine q3 ?_ _)); exact BK330.out) hb); have n1_ := A0 (blk_below (by (with_reducible repeat (first | refine q1 ?_ _ | refine q2 ?_ | refine q3 ?_ _)); exact BK343.out) hb); have n2_ := A0 (blk_below (by (with_reducible repeat (first | refine q1 ?_ _ | refine q2 ?_ | refine q3 ?_ _)); exact BK356.out) hb); have n3_ := A0 (below_step (by repeat (first | (with_reducible first | exact HB.out | apply b1 | apply b2 | apply b3 | refine below_set ?_ GE330.out | refine below_set ?_ GE343.out | refine below_set ?_ GE356.out) | exact HB.out)) hb); have n4_ := A0 (hbox); have n5_ := A0 ((by rw [hg]; exact (below_size (by repeat (first | (with_reducible first | exact HB.out | apply b1 | apply b2 | apply b3 | refine below_set ?_ GE330.out | refine below_set ?_ GE343.out | refine below_set ?_ GE356.out) | exact HB.out))) : w.heap.size ≤ gb394)); have n6_ := n5_; have n7_ := A0 ((by rw [hg]; exact Nat.ne_of_lt (blk_lt (g := gb330) (o := .cells #[.int .i64 a0_0, .int .i64 a0_1, .int .i64 a0_2, .bool a0_3, .int .i64 a0_4, .int .i64 a0_5, .int .i64 a0_6, .int .i64 a0_7, .int .i64 a0_8, .int .u32 a0_9, .int .i64 a0_10] 29 (0, 0)) (by (with_reducible repeat (first | refine q1 ?_ _ | refine q2 ?_ | refine q3 ?_ _)); exact BK330.out)) : gb330 ≠ gb394)); have n8_ := A0 ((by rw [hg]; exact Nat.ne_of_gt (blk_lt (g := gb330) (o := .cells #[.int .i64 a0_0, .int .i64 a0_1, .int .i64 a0_2, .bool a0_3, .int .i64 a0_4, .int .i64 a0_5, .int .i64 a0_6, .int .i64 a0_7, .int .i64 a0_8, .int .u32 a0_9, .int .i64 a0_10] 29 (0, 0)) (by (with_reducible repeat (first | refine q1 ?_ _ | refine q2 ?_ | refine q3 ?_ _)); exact BK330.out)) : gb394 ≠ gb330)); have n9_ := A0 ((by rw [hg]; exact Nat.ne_of_lt (blk_lt (g := gb343) (o := .cells #[.int .i64 t332, .int .i64 t333, .int .i64 t334, .bool t335, .int .i64 t336, .int .i64 t337, .int .i64 t338, .int .i64 t339, .int .i64 t340, .int .u32 t341, .int .i64 t342] 34 (0, 0)) (by (with_reducible repeat (first | refine q1 ?_ _ | refine q2 ?_ | refine q3 ?_ _)); exact BK343.out)) : gb343 ≠ gb394)); have n10_ := A0 ((by rw [hg]; exact Nat.ne_of_gt (blk_lt (g := gb343) (o := .cells #[.int .i64 t332, .int .i64 t333, .int .i64 t334, .bool t335, .int .i64 t336, .int .i64 t337, .int .i64 t338, .int .i64 t339, .int .i64 t340, .int .u32 t341, .int .i64 t342] 34 (0, 0)) (by (with_reducible repeat (first | refine q1 ?_ _ | refine q2 ?_ | refine q3 ?_ _)); exact BK343.out)) : gb394 ≠ gb343)); have n11_ := A0 ((by rw [hg]; exact Nat.ne_of_lt (blk_lt (g := gb356) (o := .cells #[.int .i64 t344, .int .i64 t345, .int .i64 t346, .bool t347, .int .i64 t348, .int .i64 t349, .int .i64 t350, .int .i64 t351, .int .i64 t352, .int .u32 t353, .int .i64 t354] 34 (0, 0)) (by (with_reducible repeat (first | refine q1 ?_ _ | refine q2 ?_ | refine q3 ?_ _)); exact BK356.out)) : gb356 ≠ gb394)); have n12_ := A0 ((by rw [hg]; exact Nat.ne_of_gt (blk_lt (g := gb356) (o := .cells #[.int .i64 t344, .int .i64 t345, .int .i64 t346, .bool t347, .int .i64 t348, .int .i64 t349, .int .i64 t350, .int .i64 t351, .int .i64 t352, .int .u32 t353, .int .i64 t354] 34 (0, 0)) (by (with_reducible repeat (first | refine q1 ?_ _ | refine q2 ?_ | refine q3 ?_ _)); exact BK356.out)) : gb394 ≠ gb356)); clear BK330; clear BK343; clear BK356; clear HB; have BK330 := n0_; have BK343 := n1_; have BK356 := n2_; have HB := n3_; have BK394 := n4_; have GW394 := n5_; have GE394 := n6_; have NB330_394 := n7_; have NB394_330 := n8_; have NB343_394 := n9_; have NB394_343 := n10_; have NB356_394 := n11_; have NB394_356 := n12_; clear n0_ n1_ n2_ n3_ n4_ n5_ n6_ n7_ n8_ n9_ n10_ n11_ n12_; clear hb hbox hg; have hnb51 := NB394_330.out; have hnc51 := NB330_394.out; have hnb52 := NB394_343.out; have hnc52 := NB343_394.out; have hnb53 := NB394_356.out; have hnc53 := NB356_394.out; have hcz54 := cc11 BK394.out))
        (try simp only [Act.put, List.setIfInBounds_toArray, List.set_cons_zero, List.set_cons_succ])
        go_cut [52] (fun v52 wc => ∃ (kq : Nat) (x52_44 : Bool), v52 = .bool x52_44 ∧ Aside0 (weftlinelaw13_PathFails.j1 kq a1 t393 x52_44 a0_0 a0_1 a0_2 a0_3 a0_4 a0_5 a0_6 a0_7 a0_8 a0_9 a0_10 t332 t333 t334 t335 t336 t337 t338 t339 t340 t341 t342 t382 t383 t384 t385 t386 t387 t388 t389 t390 t391 t392 = some r) ∧ Aside0 (kq ≤ kj7) ∧ Aside0 (wc.heap[gb330]? = some (.cells #[.int .i64 a0_0, .int .i64 a0_1, .int .i64 a0_2, .bool a0_3, .int .i64 a0_4, .int .i64 a0_5, .int .i64 a0_6, .int .i64 a0_7, .int .i64 a0_8, .int .u32 a0_9, .int .i64 a0_10] 29 (0, 0))) ∧ Aside0 (wc.heap[gb343]? = some (.cells #[.int .i64 t332, .int .i64 t333, .int .i64 t334, .bool t335, .int .i64 t336, .int .i64 t337, .int .i64 t338, .int .i64 t339, .int .i64 t340, .int .u32 t341, .int .i64 t342] 34 (0, 0))) ∧ Aside0 (wc.heap[gb356]? = some (.cells #[.int .i64 t344, .int .i64 t345, .int .i64 t346, .bool t347, .int .i64 t348, .int .i64 t349, .int .i64 t350, .int .i64 t351, .int .i64 t352, .int .u32 t353, .int .i64 t354] 34 (0, 0))) ∧ Aside0 (wc.heap[gb394]? = some (.cells #[.int .i64 t382, .int .i64 t383, .int .i64 t384, .bool t385, .int .i64 t386, .int .i64 t387, .int .i64 t388, .int .i64 t389, .int .i64 t390, .int .u32 t391, .int .i64 t392] 34 (0, 0))) ∧ Aside0 (Below w.heap.size w wc))
        case first =>
          have H := HC45.out
          clear HC45
          replace H := Option.bind_eq_some_iff.mp H
          obtain ⟨t395, A550, H⟩ := H
          replace H : (if t395 = true then ((weftlineref13_Addr.f a1).bind fun t396 => (weftlinelaw13_PathFails.j1 kj7 a1 t393 (!t396) a0_0 a0_1 a0_2 a0_3 a0_4 a0_5 a0_6 a0_7 a0_8 a0_9 a0_10 t332 t333 t334 t335 t336 t337 t338 t339 t340 t341 t342 t382 t383 t384 t385 t386 t387 t388 t389 t390 t391 t392)) else (weftlinelaw13_PathFails.j1 kj7 a1 t393 true a0_0 a0_1 a0_2 a0_3 a0_4 a0_5 a0_6 a0_7 a0_8 a0_9 a0_10 t332 t333 t334 t335 t336 t337 t338 t339 t340 t341 t342 t382 t383 t384 t385 t386 t387 t388 t389 t390 t391 t392)) = some r := H
          have A55 := Aside0.mk A550
          clear A550
          by_cases c56 : t395 = true
          · subst c56
            have H1 : ((weftlineref13_Addr.f a1).bind fun t396 => (weftlinelaw13_PathFails.j1 kj7 a1 t393 (!t396) a0_0 a0_1 a0_2 a0_3 a0_4 a0_5 a0_6 a0_7 a0_8 a0_9 a0_10 t332 t333 t334 t335 t336 t337 t338 t339 t340 t341 t342 t382 t383 t384 t385 t386 t387 t388 t389 t390 t391 t392)) = some r := by rw [if_pos rfl] at H; exact H
            clear H
            have H := H1
            clear H1
            replace H := Option.bind_eq_some_iff.mp H
            obtain ⟨t396, A570, H⟩ := H
            replace H : (weftlinelaw13_PathFails.j1 kj7 a1 t393 (!t396) a0_0 a0_1 a0_2 a0_3 a0_4 a0_5 a0_6 a0_7 a0_8 a0_9 a0_10 t332 t333 t334 t335 t336 t337 t338 t339 t340 t341 t342 t382 t383 t384 t385 t386 t387 t388 t389 t390 t391 t392) = some r := H
            have A57 := Aside0.mk A570
            clear A570
            have H' := Aside0.mk H
            clear H
            have hnb58 := NB330_343.out
            have hnc58 := NB343_330.out
            have hnb59 := NB330_356.out
            have hnc59 := NB356_330.out
            have hnb60 := NB330_394.out
            have hnc60 := NB394_330.out
            have hcz61 := cc11 BK330.out
            go_wp2_with (first | ((with_reducible refine gate_callee (f := 19) rfl ?_); refine goesL_ (some 46) rfl rfl Try.func19 (by kernel_rfl) rfl #[.agg #[.int .i64 a0_0, .int .i64 a0_1, .int .i64 a0_2, .bool a0_3, .int .i64 a0_4, .int .i64 a0_5, .int .i64 a0_6, .int .i64 a0_7, .int .i64 a0_8, .int .u32 a0_9, .int .i64 a0_10]] rfl (by (try simp only [List.map_toArray, List.map_cons, List.map_nil]); first | done | rfl | (simp only [List.length_drop, List.length_take]; rfl)) ?_; (with_reducible refine (weftlineref13_Good.calls kj7 a0_0 a0_1 a0_2 a0_3 a0_4 a0_5 a0_6 a0_7 a0_8 a0_9 a0_10 true _ A55.out).mono ?_); rintro e w62 ⟨rfl, hb⟩; refine ⟨_, rfl, ?_⟩; have n0_ := A0 (blk_below (g := gb330) (o := .cells #[.int .i64 a0_0, .int .i64 a0_1, .int .i64 a0_2, .bool a0_3, .int .i64 a0_4, .int .i64 a0_5, .int .i64 a0_6, .int .i64 a0_7, .int .i64 a0_8, .int .u32 a0_9, .int .i64 a0_10] 29 (0, 0)) (by (with_reducible repeat (first | refine q1 ?_ _ | refine q2 ?_ | refine q3 ?_ _)); refine blk_far ?_ NB330_394.out _; (with_reducible repeat (first | refine q1 ?_ _ | refine q2 ?_ | refine q3 ?_ _)); refine blk_far ?_ NB330_394.out _; (with_reducible repeat (first | refine q1 ?_ _ | refine q2 ?_ | refine q3 ?_ _)); refine blk_far ?_ NB330_394.out _; (with_reducible repeat (first | refine q1 ?_ _ | refine q2 ?_ | refine q3 ?_ _)); refine blk_far ?_ NB330_394.out _; (with_reducible repeat (first | refine q1 ?_ _ | refine q2 ?_ | refine q3 ?_ _)); refine blk_far ?_ NB330_394.out _; (with_reducible repeat (first | refine q1 ?_ _ | refine q2 ?_ | refine q3 ?_ _)); refine blk_far ?_ NB330_394.out _; (with_reducible repeat (first | refine q1 ?_ _ | refine q2 ?_ | refine q3 ?_ _)); refine blk_far ?_ NB330_394.out _; (with_reducible repeat (first | refine q1 ?_ _ | refine q2 ?_ | refine q3 ?_ _)); refine blk_far ?_ NB330_394.out _; (with_reducible repeat (first | refine q1 ?_ _ | refine q2 ?_ | refine q3 ?_ _)); refine blk_far ?_ NB330_394.out _; (with_reducible repeat (first | refine q1 ?_ _ | refine q2 ?_ | refine q3 ?_ _)); refine blk_far ?_ NB330_394.out _; (with_reducible repeat (first | refine q1 ?_ _ | refine q2 ?_ | refine q3 ?_ _)); refine blk_far ?_ NB330_394.out _; (with_reducible repeat (first | refine q1 ?_ _ | refine q2 ?_ | refine q3 ?_ _)); exact BK330.out) hb); have n1_ := A0 (blk_below (g := gb343) (o := .cells #[.int .i64 t332, .int .i64 t333, .int .i64 t334, .bool t335, .int .i64 t336, .int .i64 t337, .int .i64 t338, .int .i64 t339, .int .i64 t340, .int .u32 t341, .int .i64 t342] 34 (0, 0)) (by (with_reducible repeat (first | refine q1 ?_ _ | refine q2 ?_ | refine q3 ?_ _)); refine blk_far ?_ NB343_394.out _; (with_reducible repeat (first | refine q1 ?_ _ | refine q2 ?_ | refine q3 ?_ _)); refine blk_far ?_ NB343_394.out _; (with_reducible repeat (first | refine q1 ?_ _ | refine q2 ?_ | refine q3 ?_ _)); refine blk_far ?_ NB343_394.out _; (with_reducible repeat (first | refine q1 ?_ _ | refine q2 ?_ | refine q3 ?_ _)); refine blk_far ?_ NB343_394.out _; (with_reducible repeat (first | refine q1 ?_ _ | refine q2 ?_ | refine q3 ?_ _)); refine blk_far ?_ NB343_394.out _; (with_reducible repeat (first | refine q1 ?_ _ | refine q2 ?_ | refine q3 ?_ _)); refine blk_far ?_ NB343_394.out _; (with_reducible repeat (first | refine q1 ?_ _ | refine q2 ?_ | refine q3 ?_ _)); refine blk_far ?_ NB343_394.out _; (with_reducible repeat (first | refine q1 ?_ _ | refine q2 ?_ | refine q3 ?_ _)); refine blk_far ?_ NB343_394.out _; (with_reducible repeat (first | refine q1 ?_ _ | refine q2 ?_ | refine q3 ?_ _)); refine blk_far ?_ NB343_394.out _; (with_reducible repeat (first | refine q1 ?_ _ | refine q2 ?_ | refine q3 ?_ _)); refine blk_far ?_ NB343_394.out _; (with_reducible repeat (first | refine q1 ?_ _ | refine q2 ?_ | refine q3 ?_ _)); refine blk_far ?_ NB343_394.out _; (with_reducible repeat (first | refine q1 ?_ _ | refine q2 ?_ | refine q3 ?_ _)); exact BK343.out) hb); have n2_ := A0 (blk_below (g := gb356) (o := .cells #[.int .i64 t344, .int .i64 t345, .int .i64 t346, .bool t347, .int .i64 t348, .int .i64 t349, .int .i64 t350, .int .i64 t351, .int .i64 t352, .int .u32 t353, .int .i64 t354] 34 (0, 0)) (by (with_reducible repeat (first | refine q1 ?_ _ | refine q2 ?_ | refine q3 ?_ _)); refine blk_far ?_ NB356_394.out _; (with_reducible repeat (first | refine q1 ?_ _ | refine q2 ?_ | refine q3 ?_ _)); refine blk_far ?_ NB356_394.out _; (with_reducible repeat (first | refine q1 ?_ _ | refine q2 ?_ | refine q3 ?_ _)); refine blk_far ?_ NB356_394.out _; (with_reducible repeat (first | refine q1 ?_ _ | refine q2 ?_ | refine q3 ?_ _)); refine blk_far ?_ NB356_394.out _; (with_reducible repeat (first | refine q1 ?_ _ | refine q2 ?_ | refine q3 ?_ _)); refine blk_far ?_ NB356_394.out _; (with_reducible repeat (first | refine q1 ?_ _ | refine q2 ?_ | refine q3 ?_ _)); refine blk_far ?_ NB356_394.out _; (with_reducible repeat (first | refine q1 ?_ _ | refine q2 ?_ | refine q3 ?_ _)); refine blk_far ?_ NB356_394.out _; (with_reducible repeat (first | refine q1 ?_ _ | refine q2 ?_ | refine q3 ?_ _)); refine blk_far ?_ NB356_394.out _; (with_reducible repeat (first | refine q1 ?_ _ | refine q2 ?_ | refine q3 ?_ _)); refine blk_far ?_ NB356_394.out _; (with_reducible repeat (first | refine q1 ?_ _ | refine q2 ?_ | refine q3 ?_ _)); refine blk_far ?_ NB356_394.out _; (with_reducible repeat (first | refine q1 ?_ _ | refine q2 ?_ | refine q3 ?_ _)); refine blk_far ?_ NB356_394.out _; (with_reducible repeat (first | refine q1 ?_ _ | refine q2 ?_ | refine q3 ?_ _)); exact BK356.out) hb); have n3_ := A0 (blk_below (g := gb394) (o := .cells #[.int .i64 t382, .int .i64 t383, .int .i64 t384, .bool t385, .int .i64 t386, .int .i64 t387, .int .i64 t388, .int .i64 t389, .int .i64 t390, .int .u32 t391, .int .i64 t392] 34 (0, 0)) (by (with_reducible repeat (first | refine q1 ?_ _ | refine q2 ?_ | refine q3 ?_ _)); refine blk_put (cs := #[.int .i64 t382, .int .i64 t383, .int .i64 t384, .bool t385, .int .i64 t386, .int .i64 t387, .int .i64 t388, .int .i64 t389, .int .i64 t390, .int .u32 t391, .int .i64 0]) ?_ 10 _ rfl; (with_reducible repeat (first | refine q1 ?_ _ | refine q2 ?_ | refine q3 ?_ _)); refine blk_put (cs := #[.int .i64 t382, .int .i64 t383, .int .i64 t384, .bool t385, .int .i64 t386, .int .i64 t387, .int .i64 t388, .int .i64 t389, .int .i64 t390, .int .u32 0, .int .i64 0]) ?_ 9 _ rfl; (with_reducible repeat (first | refine q1 ?_ _ | refine q2 ?_ | refine q3 ?_ _)); refine blk_put (cs := #[.int .i64 t382, .int .i64 t383, .int .i64 t384, .bool t385, .int .i64 t386, .int .i64 t387, .int .i64 t388, .int .i64 t389, .int .i64 0, .int .u32 0, .int .i64 0]) ?_ 8 _ rfl; (with_reducible repeat (first | refine q1 ?_ _ | refine q2 ?_ | refine q3 ?_ _)); refine blk_put (cs := #[.int .i64 t382, .int .i64 t383, .int .i64 t384, .bool t385, .int .i64 t386, .int .i64 t387, .int .i64 t388, .int .i64 0, .int .i64 0, .int .u32 0, .int .i64 0]) ?_ 7 _ rfl; (with_reducible repeat (first | refine q1 ?_ _ | refine q2 ?_ | refine q3 ?_ _)); refine blk_put (cs := #[.int .i64 t382, .int .i64 t383, .int .i64 t384, .bool t385, .int .i64 t386, .int .i64 t387, .int .i64 0, .int .i64 0, .int .i64 0, .int .u32 0, .int .i64 0]) ?_ 6 _ rfl; (with_reducible repeat (first | refine q1 ?_ _ | refine q2 ?_ | refine q3 ?_ _)); refine blk_put (cs := #[.int .i64 t382, .int .i64 t383, .int .i64 t384, .bool t385, .int .i64 t386, .int .i64 0, .int .i64 0, .int .i64 0, .int .i64 0, .int .u32 0, .int .i64 0]) ?_ 5 _ rfl; (with_reducible repeat (first | refine q1 ?_ _ | refine q2 ?_ | refine q3 ?_ _)); refine blk_put (cs := #[.int .i64 t382, .int .i64 t383, .int .i64 t384, .bool t385, .int .i64 0, .int .i64 0, .int .i64 0, .int .i64 0, .int .i64 0, .int .u32 0, .int .i64 0]) ?_ 4 _ rfl; (with_reducible repeat (first | refine q1 ?_ _ | refine q2 ?_ | refine q3 ?_ _)); refine blk_put (cs := #[.int .i64 t382, .int .i64 t383, .int .i64 t384, .bool false, .int .i64 0, .int .i64 0, .int .i64 0, .int .i64 0, .int .i64 0, .int .u32 0, .int .i64 0]) ?_ 3 _ rfl; (with_reducible repeat (first | refine q1 ?_ _ | refine q2 ?_ | refine q3 ?_ _)); refine blk_put (cs := #[.int .i64 t382, .int .i64 t383, .int .i64 0, .bool false, .int .i64 0, .int .i64 0, .int .i64 0, .int .i64 0, .int .i64 0, .int .u32 0, .int .i64 0]) ?_ 2 _ rfl; (with_reducible repeat (first | refine q1 ?_ _ | refine q2 ?_ | refine q3 ?_ _)); refine blk_put (cs := #[.int .i64 t382, .int .i64 0, .int .i64 0, .bool false, .int .i64 0, .int .i64 0, .int .i64 0, .int .i64 0, .int .i64 0, .int .u32 0, .int .i64 0]) ?_ 1 _ rfl; (with_reducible repeat (first | refine q1 ?_ _ | refine q2 ?_ | refine q3 ?_ _)); refine blk_put (cs := #[.int .i64 0, .int .i64 0, .int .i64 0, .bool false, .int .i64 0, .int .i64 0, .int .i64 0, .int .i64 0, .int .i64 0, .int .u32 0, .int .i64 0]) ?_ 0 _ rfl; (with_reducible repeat (first | refine q1 ?_ _ | refine q2 ?_ | refine q3 ?_ _)); exact BK394.out) hb); have n4_ := A0 (below_step (by repeat (first | (with_reducible first | exact HB.out | apply b1 | apply b2 | apply b3 | refine below_set ?_ GE330.out | refine below_set ?_ GE343.out | refine below_set ?_ GE356.out | refine below_set ?_ GE394.out) | exact HB.out)) hb); clear BK330; clear BK343; clear BK356; clear BK394; clear HB; have BK330 := n0_; have BK343 := n1_; have BK356 := n2_; have BK394 := n3_; have HB := n4_; clear n0_ n1_ n2_ n3_ n4_; (try clear hb); (try clear hb2); (try clear hk); (try clear hi)) | (go_at_call 14; (with_reducible refine (weftlineref13_Addr.calls a1 t396 _ A57.out).mono ?_); rintro e w' ⟨rfl, ⟨nd, rfl⟩⟩))
            go_meet
            case rel => exact ⟨_, (!t396), (by first | rfl | (simp; done) | (simp [*]; done)), H', ⟨by have := HJ7.out; first | omega | exact Nat.le_refl _⟩, ⟨by (with_reducible repeat (first | refine q1 ?_ _ | refine q2 ?_ | refine q3 ?_ _)); exact BK330.out⟩, ⟨by (with_reducible repeat (first | refine q1 ?_ _ | refine q2 ?_ | refine q3 ?_ _)); exact BK343.out⟩, ⟨by (with_reducible repeat (first | refine q1 ?_ _ | refine q2 ?_ | refine q3 ?_ _)); exact BK356.out⟩, ⟨by (with_reducible repeat (first | refine q1 ?_ _ | refine q2 ?_ | refine q3 ?_ _)); exact BK394.out⟩, ⟨by repeat (first | (with_reducible first | exact HB.out | apply b1 | apply b2 | apply b3 | refine below_set ?_ GE330.out | refine below_set ?_ GE343.out | refine below_set ?_ GE356.out | refine below_set ?_ GE394.out) | exact HB.out)⟩⟩
          · replace c56 := Bool.eq_false_iff.mpr c56
            subst c56
            have H1 : (weftlinelaw13_PathFails.j1 kj7 a1 t393 true a0_0 a0_1 a0_2 a0_3 a0_4 a0_5 a0_6 a0_7 a0_8 a0_9 a0_10 t332 t333 t334 t335 t336 t337 t338 t339 t340 t341 t342 t382 t383 t384 t385 t386 t387 t388 t389 t390 t391 t392) = some r := by rw [if_neg (show ¬ (false = true) by decide)] at H; exact H
            clear H
            have H := H1
            clear H1
            have H' := Aside0.mk H
            clear H
            have hnb63 := NB330_343.out
            have hnc63 := NB343_330.out
            have hnb64 := NB330_356.out
            have hnc64 := NB356_330.out
            have hnb65 := NB330_394.out
            have hnc65 := NB394_330.out
            have hcz66 := cc11 BK330.out
            go_wp2_with (first | ((with_reducible refine gate_callee (f := 19) rfl ?_); refine goesL_ (some 46) rfl rfl Try.func19 (by kernel_rfl) rfl #[.agg #[.int .i64 a0_0, .int .i64 a0_1, .int .i64 a0_2, .bool a0_3, .int .i64 a0_4, .int .i64 a0_5, .int .i64 a0_6, .int .i64 a0_7, .int .i64 a0_8, .int .u32 a0_9, .int .i64 a0_10]] rfl (by (try simp only [List.map_toArray, List.map_cons, List.map_nil]); first | done | rfl | (simp only [List.length_drop, List.length_take]; rfl)) ?_; (with_reducible refine (weftlineref13_Good.calls kj7 a0_0 a0_1 a0_2 a0_3 a0_4 a0_5 a0_6 a0_7 a0_8 a0_9 a0_10 false _ A55.out).mono ?_); rintro e w67 ⟨rfl, hb⟩; refine ⟨_, rfl, ?_⟩; have n0_ := A0 (blk_below (g := gb330) (o := .cells #[.int .i64 a0_0, .int .i64 a0_1, .int .i64 a0_2, .bool a0_3, .int .i64 a0_4, .int .i64 a0_5, .int .i64 a0_6, .int .i64 a0_7, .int .i64 a0_8, .int .u32 a0_9, .int .i64 a0_10] 29 (0, 0)) (by (with_reducible repeat (first | refine q1 ?_ _ | refine q2 ?_ | refine q3 ?_ _)); refine blk_far ?_ NB330_394.out _; (with_reducible repeat (first | refine q1 ?_ _ | refine q2 ?_ | refine q3 ?_ _)); refine blk_far ?_ NB330_394.out _; (with_reducible repeat (first | refine q1 ?_ _ | refine q2 ?_ | refine q3 ?_ _)); refine blk_far ?_ NB330_394.out _; (with_reducible repeat (first | refine q1 ?_ _ | refine q2 ?_ | refine q3 ?_ _)); refine blk_far ?_ NB330_394.out _; (with_reducible repeat (first | refine q1 ?_ _ | refine q2 ?_ | refine q3 ?_ _)); refine blk_far ?_ NB330_394.out _; (with_reducible repeat (first | refine q1 ?_ _ | refine q2 ?_ | refine q3 ?_ _)); refine blk_far ?_ NB330_394.out _; (with_reducible repeat (first | refine q1 ?_ _ | refine q2 ?_ | refine q3 ?_ _)); refine blk_far ?_ NB330_394.out _; (with_reducible repeat (first | refine q1 ?_ _ | refine q2 ?_ | refine q3 ?_ _)); refine blk_far ?_ NB330_394.out _; (with_reducible repeat (first | refine q1 ?_ _ | refine q2 ?_ | refine q3 ?_ _)); refine blk_far ?_ NB330_394.out _; (with_reducible repeat (first | refine q1 ?_ _ | refine q2 ?_ | refine q3 ?_ _)); refine blk_far ?_ NB330_394.out _; (with_reducible repeat (first | refine q1 ?_ _ | refine q2 ?_ | refine q3 ?_ _)); refine blk_far ?_ NB330_394.out _; (with_reducible repeat (first | refine q1 ?_ _ | refine q2 ?_ | refine q3 ?_ _)); exact BK330.out) hb); have n1_ := A0 (blk_below (g := gb343) (o := .cells #[.int .i64 t332, .int .i64 t333, .int .i64 t334, .bool t335, .int .i64 t336, .int .i64 t337, .int .i64 t338, .int .i64 t339, .int .i64 t340, .int .u32 t341, .int .i64 t342] 34 (0, 0)) (by (with_reducible repeat (first | refine q1 ?_ _ | refine q2 ?_ | refine q3 ?_ _)); refine blk_far ?_ NB343_394.out _; (with_reducible repeat (first | refine q1 ?_ _ | refine q2 ?_ | refine q3 ?_ _)); refine blk_far ?_ NB343_394.out _; (with_reducible repeat (first | refine q1 ?_ _ | refine q2 ?_ | refine q3 ?_ _)); refine blk_far ?_ NB343_394.out _; (with_reducible repeat (first | refine q1 ?_ _ | refine q2 ?_ | refine q3 ?_ _)); refine blk_far ?_ NB343_394.out _; (with_reducible repeat (first | refine q1 ?_ _ | refine q2 ?_ | refine q3 ?_ _)); refine blk_far ?_ NB343_394.out _; (with_reducible repeat (first | refine q1 ?_ _ | refine q2 ?_ | refine q3 ?_ _)); refine blk_far ?_ NB343_394.out _; (with_reducible repeat (first | refine q1 ?_ _ | refine q2 ?_ | refine q3 ?_ _)); refine blk_far ?_ NB343_394.out _; (with_reducible repeat (first | refine q1 ?_ _ | refine q2 ?_ | refine q3 ?_ _)); refine blk_far ?_ NB343_394.out _; (with_reducible repeat (first | refine q1 ?_ _ | refine q2 ?_ | refine q3 ?_ _)); refine blk_far ?_ NB343_394.out _; (with_reducible repeat (first | refine q1 ?_ _ | refine q2 ?_ | refine q3 ?_ _)); refine blk_far ?_ NB343_394.out _; (with_reducible repeat (first | refine q1 ?_ _ | refine q2 ?_ | refine q3 ?_ _)); refine blk_far ?_ NB343_394.out _; (with_reducible repeat (first | refine q1 ?_ _ | refine q2 ?_ | refine q3 ?_ _)); exact BK343.out) hb); have n2_ := A0 (blk_below (g := gb356) (o := .cells #[.int .i64 t344, .int .i64 t345, .int .i64 t346, .bool t347, .int .i64 t348, .int .i64 t349, .int .i64 t350, .int .i64 t351, .int .i64 t352, .int .u32 t353, .int .i64 t354] 34 (0, 0)) (by (with_reducible repeat (first | refine q1 ?_ _ | refine q2 ?_ | refine q3 ?_ _)); refine blk_far ?_ NB356_394.out _; (with_reducible repeat (first | refine q1 ?_ _ | refine q2 ?_ | refine q3 ?_ _)); refine blk_far ?_ NB356_394.out _; (with_reducible repeat (first | refine q1 ?_ _ | refine q2 ?_ | refine q3 ?_ _)); refine blk_far ?_ NB356_394.out _; (with_reducible repeat (first | refine q1 ?_ _ | refine q2 ?_ | refine q3 ?_ _)); refine blk_far ?_ NB356_394.out _; (with_reducible repeat (first | refine q1 ?_ _ | refine q2 ?_ | refine q3 ?_ _)); refine blk_far ?_ NB356_394.out _; (with_reducible repeat (first | refine q1 ?_ _ | refine q2 ?_ | refine q3 ?_ _)); refine blk_far ?_ NB356_394.out _; (with_reducible repeat (first | refine q1 ?_ _ | refine q2 ?_ | refine q3 ?_ _)); refine blk_far ?_ NB356_394.out _; (with_reducible repeat (first | refine q1 ?_ _ | refine q2 ?_ | refine q3 ?_ _)); refine blk_far ?_ NB356_394.out _; (with_reducible repeat (first | refine q1 ?_ _ | refine q2 ?_ | refine q3 ?_ _)); refine blk_far ?_ NB356_394.out _; (with_reducible repeat (first | refine q1 ?_ _ | refine q2 ?_ | refine q3 ?_ _)); refine blk_far ?_ NB356_394.out _; (with_reducible repeat (first | refine q1 ?_ _ | refine q2 ?_ | refine q3 ?_ _)); refine blk_far ?_ NB356_394.out _; (with_reducible repeat (first | refine q1 ?_ _ | refine q2 ?_ | refine q3 ?_ _)); exact BK356.out) hb); have n3_ := A0 (blk_below (g := gb394) (o := .cells #[.int .i64 t382, .int .i64 t383, .int .i64 t384, .bool t385, .int .i64 t386, .int .i64 t387, .int .i64 t388, .int .i64 t389, .int .i64 t390, .int .u32 t391, .int .i64 t392] 34 (0, 0)) (by (with_reducible repeat (first | refine q1 ?_ _ | refine q2 ?_ | refine q3 ?_ _)); refine blk_put (cs := #[.int .i64 t382, .int .i64 t383, .int .i64 t384, .bool t385, .int .i64 t386, .int .i64 t387, .int .i64 t388, .int .i64 t389, .int .i64 t390, .int .u32 t391, .int .i64 0]) ?_ 10 _ rfl; (with_reducible repeat (first | refine q1 ?_ _ | refine q2 ?_ | refine q3 ?_ _)); refine blk_put (cs := #[.int .i64 t382, .int .i64 t383, .int .i64 t384, .bool t385, .int .i64 t386, .int .i64 t387, .int .i64 t388, .int .i64 t389, .int .i64 t390, .int .u32 0, .int .i64 0]) ?_ 9 _ rfl; (with_reducible repeat (first | refine q1 ?_ _ | refine q2 ?_ | refine q3 ?_ _)); refine blk_put (cs := #[.int .i64 t382, .int .i64 t383, .int .i64 t384, .bool t385, .int .i64 t386, .int .i64 t387, .int .i64 t388, .int .i64 t389, .int .i64 0, .int .u32 0, .int .i64 0]) ?_ 8 _ rfl; (with_reducible repeat (first | refine q1 ?_ _ | refine q2 ?_ | refine q3 ?_ _)); refine blk_put (cs := #[.int .i64 t382, .int .i64 t383, .int .i64 t384, .bool t385, .int .i64 t386, .int .i64 t387, .int .i64 t388, .int .i64 0, .int .i64 0, .int .u32 0, .int .i64 0]) ?_ 7 _ rfl; (with_reducible repeat (first | refine q1 ?_ _ | refine q2 ?_ | refine q3 ?_ _)); refine blk_put (cs := #[.int .i64 t382, .int .i64 t383, .int .i64 t384, .bool t385, .int .i64 t386, .int .i64 t387, .int .i64 0, .int .i64 0, .int .i64 0, .int .u32 0, .int .i64 0]) ?_ 6 _ rfl; (with_reducible repeat (first | refine q1 ?_ _ | refine q2 ?_ | refine q3 ?_ _)); refine blk_put (cs := #[.int .i64 t382, .int .i64 t383, .int .i64 t384, .bool t385, .int .i64 t386, .int .i64 0, .int .i64 0, .int .i64 0, .int .i64 0, .int .u32 0, .int .i64 0]) ?_ 5 _ rfl; (with_reducible repeat (first | refine q1 ?_ _ | refine q2 ?_ | refine q3 ?_ _)); refine blk_put (cs := #[.int .i64 t382, .int .i64 t383, .int .i64 t384, .bool t385, .int .i64 0, .int .i64 0, .int .i64 0, .int .i64 0, .int .i64 0, .int .u32 0, .int .i64 0]) ?_ 4 _ rfl; (with_reducible repeat (first | refine q1 ?_ _ | refine q2 ?_ | refine q3 ?_ _)); refine blk_put (cs := #[.int .i64 t382, .int .i64 t383, .int .i64 t384, .bool false, .int .i64 0, .int .i64 0, .int .i64 0, .int .i64 0, .int .i64 0, .int .u32 0, .int .i64 0]) ?_ 3 _ rfl; (with_reducible repeat (first | refine q1 ?_ _ | refine q2 ?_ | refine q3 ?_ _)); refine blk_put (cs := #[.int .i64 t382, .int .i64 t383, .int .i64 0, .bool false, .int .i64 0, .int .i64 0, .int .i64 0, .int .i64 0, .int .i64 0, .int .u32 0, .int .i64 0]) ?_ 2 _ rfl; (with_reducible repeat (first | refine q1 ?_ _ | refine q2 ?_ | refine q3 ?_ _)); refine blk_put (cs := #[.int .i64 t382, .int .i64 0, .int .i64 0, .bool false, .int .i64 0, .int .i64 0, .int .i64 0, .int .i64 0, .int .i64 0, .int .u32 0, .int .i64 0]) ?_ 1 _ rfl; (with_reducible repeat (first | refine q1 ?_ _ | refine q2 ?_ | refine q3 ?_ _)); refine blk_put (cs := #[.int .i64 0, .int .i64 0, .int .i64 0, .bool false, .int .i64 0, .int .i64 0, .int .i64 0, .int .i64 0, .int .i64 0, .int .u32 0, .int .i64 0]) ?_ 0 _ rfl; (with_reducible repeat (first | refine q1 ?_ _ | refine q2 ?_ | refine q3 ?_ _)); exact BK394.out) hb); have n4_ := A0 (below_step (by repeat (first | (with_reducible first | exact HB.out | apply b1 | apply b2 | apply b3 | refine below_set ?_ GE330.out | refine below_set ?_ GE343.out | refine below_set ?_ GE356.out | refine below_set ?_ GE394.out) | exact HB.out)) hb); clear BK330; clear BK343; clear BK356; clear BK394; clear HB; have BK330 := n0_; have BK343 := n1_; have BK356 := n2_; have BK394 := n3_; have HB := n4_; clear n0_ n1_ n2_ n3_ n4_; (try clear hb); (try clear hb2); (try clear hk); (try clear hi)))
            go_meet
            case rel => exact ⟨_, (true), (by first | rfl | (simp; done) | (simp [*]; done)), H', ⟨by have := HJ7.out; first | omega | exact Nat.le_refl _⟩, ⟨by (with_reducible repeat (first | refine q1 ?_ _ | refine q2 ?_ | refine q3 ?_ _)); exact BK330.out⟩, ⟨by (with_reducible repeat (first | refine q1 ?_ _ | refine q2 ?_ | refine q3 ?_ _)); exact BK343.out⟩, ⟨by (with_reducible repeat (first | refine q1 ?_ _ | refine q2 ?_ | refine q3 ?_ _)); exact BK356.out⟩, ⟨by (with_reducible repeat (first | refine q1 ?_ _ | refine q2 ?_ | refine q3 ?_ _)); exact BK394.out⟩, ⟨by repeat (first | (with_reducible first | exact HB.out | apply b1 | apply b2 | apply b3 | refine below_set ?_ GE330.out | refine below_set ?_ GE343.out | refine below_set ?_ GE356.out | refine below_set ?_ GE394.out) | exact HB.out)⟩⟩
        case rest =>
          clear HC45
          try clear c1
          try clear c2
          try clear p2
          try clear c3
          try clear q3
          try clear c4
          try clear c5
          try clear c6
          try clear c11
          try clear c12
          try clear c13
          try clear c14
          try clear c18
          try clear c19
          try clear c21
          try clear c24
          try clear c24b0
          try clear c25
          try clear c26
          try clear c30
          try clear c31
          try clear q35
          try clear c36
          try clear c37
          try clear c37b0
          try clear c38
          try clear c39
          try clear c41
          try clear c42
          try clear c46
          try clear c47
          try clear c51
          try clear c52
          try clear c53
          try clear c56
          try clear c58
          try clear c59
          try clear c60
          try clear c63
          try clear c64
          try clear c65
          try clear hcz11_0
          try clear hcz11_1
          try clear hcz11_10
          try clear hcz11_2
          try clear hcz11_3
          try clear hcz11_4
          try clear hcz11_5
          try clear hcz11_6
          try clear hcz11_7
          try clear hcz11_8
          try clear hcz11_9
          try clear hcz15_0
          try clear hcz15_1
          try clear hcz15_10
          try clear hcz15_2
          try clear hcz15_3
          try clear hcz15_4
          try clear hcz15_5
          try clear hcz15_6
          try clear hcz15_7
          try clear hcz15_8
          try clear hcz15_9
          try clear hcz20_0
          try clear hcz20_1
          try clear hcz20_10
          try clear hcz20_2
          try clear hcz20_3
          try clear hcz20_4
          try clear hcz20_5
          try clear hcz20_6
          try clear hcz20_7
          try clear hcz20_8
          try clear hcz20_9
          try clear hcz27_0
          try clear hcz27_1
          try clear hcz27_10
          try clear hcz27_2
          try clear hcz27_3
          try clear hcz27_4
          try clear hcz27_5
          try clear hcz27_6
          try clear hcz27_7
          try clear hcz27_8
          try clear hcz27_9
          try clear hcz32_0
          try clear hcz32_1
          try clear hcz32_10
          try clear hcz32_2
          try clear hcz32_3
          try clear hcz32_4
          try clear hcz32_5
          try clear hcz32_6
          try clear hcz32_7
          try clear hcz32_8
          try clear hcz32_9
          try clear hcz40_0
          try clear hcz40_1
          try clear hcz40_10
          try clear hcz40_2
          try clear hcz40_3
          try clear hcz40_4
          try clear hcz40_5
          try clear hcz40_6
          try clear hcz40_7
          try clear hcz40_8
          try clear hcz40_9
          try clear hcz43_0
          try clear hcz43_1
          try clear hcz43_10
          try clear hcz43_2
          try clear hcz43_3
          try clear hcz43_4
          try clear hcz43_5
          try clear hcz43_6
          try clear hcz43_7
          try clear hcz43_8
          try clear hcz43_9
          try clear hcz48_0
          try clear hcz48_1
          try clear hcz48_10
          try clear hcz48_2
          try clear hcz48_3
          try clear hcz48_4
          try clear hcz48_5
          try clear hcz48_6
          try clear hcz48_7
          try clear hcz48_8
          try clear hcz48_9
          try clear hcz54_0
          try clear hcz54_1
          try clear hcz54_10
          try clear hcz54_2
          try clear hcz54_3
          try clear hcz54_4
          try clear hcz54_5
          try clear hcz54_6
          try clear hcz54_7
          try clear hcz54_8
          try clear hcz54_9
          try clear hcz61_0
          try clear hcz61_1
          try clear hcz61_10
          try clear hcz61_2
          try clear hcz61_3
          try clear hcz61_4
          try clear hcz61_5
          try clear hcz61_6
          try clear hcz61_7
          try clear hcz61_8
          try clear hcz61_9
          try clear hcz66_0
          try clear hcz66_1
          try clear hcz66_10
          try clear hcz66_2
          try clear hcz66_3
          try clear hcz66_4
          try clear hcz66_5
          try clear hcz66_6
          try clear hcz66_7
          try clear hcz66_8
          try clear hcz66_9
          try clear hfz11_0
          try clear hfz11_1
          try clear hfz11_10
          try clear hfz11_2
          try clear hfz11_3
          try clear hfz11_4
          try clear hfz11_5
          try clear hfz11_6
          try clear hfz11_7
          try clear hfz11_8
          try clear hfz11_9
          try clear hfz15_0
          try clear hfz15_1
          try clear hfz15_10
          try clear hfz15_2
          try clear hfz15_3
          try clear hfz15_4
          try clear hfz15_5
          try clear hfz15_6
          try clear hfz15_7
          try clear hfz15_8
          try clear hfz15_9
          try clear hfz20_0
          try clear hfz20_1
          try clear hfz20_10
          try clear hfz20_2
          try clear hfz20_3
          try clear hfz20_4
          try clear hfz20_5
          try clear hfz20_6
          try clear hfz20_7
          try clear hfz20_8
          try clear hfz20_9
          try clear hfz27_0
          try clear hfz27_1
          try clear hfz27_10
          try clear hfz27_2
          try clear hfz27_3
          try clear hfz27_4
          try clear hfz27_5
          try clear hfz27_6
          try clear hfz27_7
          try clear hfz27_8
          try clear hfz27_9
          try clear hfz32_0
          try clear hfz32_1
          try clear hfz32_10
          try clear hfz32_2
          try clear hfz32_3
          try clear hfz32_4
          try clear hfz32_5
          try clear hfz32_6
          try clear hfz32_7
          try clear hfz32_8
          try clear hfz32_9
          try clear hfz40_0
          try clear hfz40_1
          try clear hfz40_10
          try clear hfz40_2
          try clear hfz40_3
          try clear hfz40_4
          try clear hfz40_5
          try clear hfz40_6
          try clear hfz40_7
          try clear hfz40_8
          try clear hfz40_9
          try clear hfz43_0
          try clear hfz43_1
          try clear hfz43_10
          try clear hfz43_2
          try clear hfz43_3
          try clear hfz43_4
          try clear hfz43_5
          try clear hfz43_6
          try clear hfz43_7
          try clear hfz43_8
          try clear hfz43_9
          try clear hfz48_0
          try clear hfz48_1
          try clear hfz48_10
          try clear hfz48_2
          try clear hfz48_3
          try clear hfz48_4
          try clear hfz48_5
          try clear hfz48_6
          try clear hfz48_7
          try clear hfz48_8
          try clear hfz48_9
          try clear hfz54_0
          try clear hfz54_1
          try clear hfz54_10
          try clear hfz54_2
          try clear hfz54_3
          try clear hfz54_4
          try clear hfz54_5
          try clear hfz54_6
          try clear hfz54_7
          try clear hfz54_8
          try clear hfz54_9
          try clear hfz61_0
          try clear hfz61_1
          try clear hfz61_10
          try clear hfz61_2
          try clear hfz61_3
          try clear hfz61_4
          try clear hfz61_5
          try clear hfz61_6
          try clear hfz61_7
          try clear hfz61_8
          try clear hfz61_9
          try clear hfz66_0
          try clear hfz66_1
          try clear hfz66_10
          try clear hfz66_2
          try clear hfz66_3
          try clear hfz66_4
          try clear hfz66_5
          try clear hfz66_6
          try clear hfz66_7
          try clear hfz66_8
          try clear hfz66_9
          try clear p2
          try clear q3
          try clear q35
          try clear q358
          obtain ⟨kq, x52_44, rfl, HA, HJ44, BK330, BK343, BK356, BK394, HB⟩ := hcut
          cases kq with
          | zero => exact absurd HA.out (by simp [weftlinelaw13_PathFails.j1])
          | succ kj44 =>
            have H := HA.out
            clear HA
            simp only [weftlinelaw13_PathFails.j1] at H
            have HC68 := Aside0.mk H
            clear H
            go_upto_if 52 with (fail)
            go_cut [] (fun wc => ∃ (kq : Nat), Aside0 (weftlinelaw13_PathFails.j2 kq a0_0 a0_1 a0_2 a0_3 a0_4 a0_5 a0_6 a0_7 a0_8 a0_9 a0_10 t332 t333 t334 t335 t336 t337 t338 t339 t340 t341 t342 = some r) ∧ Aside0 (kq ≤ kj44) ∧ Aside0 (wc.heap[gb330]? = some (.cells #[.int .i64 a0_0, .int .i64 a0_1, .int .i64 a0_2, .bool a0_3, .int .i64 a0_4, .int .i64 a0_5, .int .i64 a0_6, .int .i64 a0_7, .int .i64 a0_8, .int .u32 a0_9, .int .i64 a0_10] 29 (0, 0))) ∧ Aside0 (wc.heap[gb343]? = some (.cells #[.int .i64 t332, .int .i64 t333, .int .i64 t334, .bool t335, .int .i64 t336, .int .i64 t337, .int .i64 t338, .int .i64 t339, .int .i64 t340, .int .u32 t341, .int .i64 t342] 34 (0, 0))) ∧ Aside0 (wc.heap[gb356]? = some (.cells #[.int .i64 t344, .int .i64 t345, .int .i64 t346, .bool t347, .int .i64 t348, .int .i64 t349, .int .i64 t350, .int .i64 t351, .int .i64 t352, .int .u32 t353, .int .i64 t354] 34 (0, 0))) ∧ Aside0 (wc.heap[gb394]? = some (.cells #[.int .i64 t382, .int .i64 t383, .int .i64 t384, .bool t385, .int .i64 t386, .int .i64 t387, .int .i64 t388, .int .i64 t389, .int .i64 t390, .int .u32 t391, .int .i64 t392] 34 (0, 0))) ∧ Aside0 (Below w.heap.size w wc))
            case first =>
              have H := HC68.out
              clear HC68
              by_cases c69 : x52_44 = true
              · subst c69
                have H1 : ((weftlinenum_Is.f t393 1).bind fun t397 => (if t397 = true then (if ((!(t382 == 0) || (!(t383 == 0) || (!(t384 == 0) || (t385)))) || ((!(t386 == 0) || (!(t387 == 0) || (!(t388 == 0)))) || (!(t389 == 0) || (!(t390 == 0) || (!(t391 == 0) || (!(t392 == 0))))))) = true then (some false) else (weftlinelaw13_PathFails.j2 kj44 a0_0 a0_1 a0_2 a0_3 a0_4 a0_5 a0_6 a0_7 a0_8 a0_9 a0_10 t332 t333 t334 t335 t336 t337 t338 t339 t340 t341 t342)) else (some false))) = some r := by rw [if_pos rfl] at H; exact H
                clear H
                have H := H1
                clear H1
                replace H := Option.bind_eq_some_iff.mp H
                obtain ⟨t397, A700, H⟩ := H
                replace H : (if t397 = true then (if ((!(t382 == 0) || (!(t383 == 0) || (!(t384 == 0) || (t385)))) || ((!(t386 == 0) || (!(t387 == 0) || (!(t388 == 0)))) || (!(t389 == 0) || (!(t390 == 0) || (!(t391 == 0) || (!(t392 == 0))))))) = true then (some false) else (weftlinelaw13_PathFails.j2 kj44 a0_0 a0_1 a0_2 a0_3 a0_4 a0_5 a0_6 a0_7 a0_8 a0_9 a0_10 t332 t333 t334 t335 t336 t337 t338 t339 t340 t341 t342)) else (some false)) = some r := H
                have A70 := Aside0.mk A700
                clear A700
                by_cases c71 : t397 = true
                · subst c71
                  have H1 : (if ((!(t382 == 0) || (!(t383 == 0) || (!(t384 == 0) || (t385)))) || ((!(t386 == 0) || (!(t387 == 0) || (!(t388 == 0)))) || (!(t389 == 0) || (!(t390 == 0) || (!(t391 == 0) || (!(t392 == 0))))))) = true then (some false) else (weftlinelaw13_PathFails.j2 kj44 a0_0 a0_1 a0_2 a0_3 a0_4 a0_5 a0_6 a0_7 a0_8 a0_9 a0_10 t332 t333 t334 t335 t336 t337 t338 t339 t340 t341 t342)) = some r := by rw [if_pos rfl] at H; exact H
                  clear H
                  have H := H1
                  clear H1
                  by_cases c72 : ((!(t382 == 0) || (!(t383 == 0) || (!(t384 == 0) || (t385)))) || ((!(t386 == 0) || (!(t387 == 0) || (!(t388 == 0)))) || (!(t389 == 0) || (!(t390 == 0) || (!(t391 == 0) || (!(t392 == 0))))))) = true
                  · rw [if_pos c72] at H
                    rw [hr0.out] at H
                    exact absurd H (by simp)
                  · rw [if_neg c72] at H
                    have c72b0 : ((!(t382 == 0) || (!(t383 == 0) || (!(t384 == 0) || (t385)))) || ((!(t386 == 0) || (!(t387 == 0) || (!(t388 == 0)))) || (!(t389 == 0) || (!(t390 == 0) || (!(t391 == 0) || (!(t392 == 0))))))) = false := by simpa using c72
                    clear c72
                    (first | rw [c72b0] | (simp only [i64_w, i32_w]; rw [c72b0]) | skip)
                    have H' := Aside0.mk H
                    clear H
                    have CA70 := fun W => weftlinenum_Is.calls t393 1 true W A70.out
                    try simp only [errW_none, errW_some] at CA70
                    go_wp2_with (first | (go_at_call 15; (with_reducible refine (CA70 _).mono ?_); rintro e w' ⟨rfl, ⟨nd, rfl⟩⟩; have hnb77 := NB394_330.out; have hnc77 := NB330_394.out; have hnb78 := NB394_343.out; have hnc78 := NB343_394.out; have hnb79 := NB394_356.out; have hnc79 := NB356_394.out; have hcz80 := cc11 BK394.out))
                    go_meet
                    case rel => exact ⟨_, H', ⟨by have := HJ7.out; have := HJ44.out; first | omega | exact Nat.le_refl _⟩, ⟨by (with_reducible repeat (first | refine q1 ?_ _ | refine q2 ?_ | refine q3 ?_ _)); exact BK330.out⟩, ⟨by (with_reducible repeat (first | refine q1 ?_ _ | refine q2 ?_ | refine q3 ?_ _)); exact BK343.out⟩, ⟨by (with_reducible repeat (first | refine q1 ?_ _ | refine q2 ?_ | refine q3 ?_ _)); exact BK356.out⟩, ⟨by (with_reducible repeat (first | refine q1 ?_ _ | refine q2 ?_ | refine q3 ?_ _)); exact BK394.out⟩, ⟨by repeat (first | (with_reducible first | exact HB.out | apply b1 | apply b2 | apply b3 | refine below_set ?_ GE330.out | refine below_set ?_ GE343.out | refine below_set ?_ GE356.out | refine below_set ?_ GE394.out) | exact HB.out)⟩⟩
                · replace c71 := Bool.eq_false_iff.mpr c71
                  subst c71
                  have H1 : (some false) = some r := by rw [if_neg (show ¬ (false = true) by decide)] at H; exact H
                  rw [hr0.out] at H1
                  exact absurd H1 (by simp)
              · replace c69 := Bool.eq_false_iff.mpr c69
                subst c69
                have H1 : (if t393.isNone = true then (if t389 = a1 then (if t390 = t340 then (if (!(t386 == t336) || (!(t387 == t337) || (!(t388 == t338)))) = true then (some false) else (if (!(t382 == t332) || (!(t383 == t333) || (!(t384 == t334) || (!(t385 == t335))))) = true then (some false) else (if t391 = t341 then (weftlinelaw13_PathFails.j2 kj44 a0_0 a0_1 a0_2 a0_3 a0_4 a0_5 a0_6 a0_7 a0_8 a0_9 a0_10 t332 t333 t334 t335 t336 t337 t338 t339 t340 t341 t342) else (some false)))) else (some false)) else (some false)) else (some false)) = some r := by rw [if_neg (show ¬ (false = true) by decide)] at H; exact H
                clear H
                have H := H1
                clear H1
                rcases t393 with _ | q399
                · have H1 : (if t389 = a1 then (if t390 = t340 then (if (!(t386 == t336) || (!(t387 == t337) || (!(t388 == t338)))) = true then (some false) else (if (!(t382 == t332) || (!(t383 == t333) || (!(t384 == t334) || (!(t385 == t335))))) = true then (some false) else (if t391 = t341 then (weftlinelaw13_PathFails.j2 kj44 a0_0 a0_1 a0_2 a0_3 a0_4 a0_5 a0_6 a0_7 a0_8 a0_9 a0_10 t332 t333 t334 t335 t336 t337 t338 t339 t340 t341 t342) else (some false)))) else (some false)) else (some false)) = some r := by rw [if_pos (show (none : Option Int).isNone = true by rfl)] at H; exact H
                  clear H
                  have H := H1
                  clear H1
                  try simp only [errW_none, errW_some]
                  by_cases c81 : t389 = a1
                  · rw [if_pos c81] at H
                    have c81b0 : (t389 == a1) = true := beq_iff_eq.mpr c81
                    have c81b1 : (t389 != a1) = false := bne_eq_false_iff_eq.mpr c81
                    clear c81
                    by_cases c82 : t390 = t340
                    · rw [if_pos c82] at H
                      have c82b0 : (t390 == t340) = true := beq_iff_eq.mpr c82
                      have c82b1 : (t390 != t340) = false := bne_eq_false_iff_eq.mpr c82
                      clear c82
                      by_cases c83 : (!(t386 == t336) || (!(t387 == t337) || (!(t388 == t338)))) = true
                      · rw [if_pos c83] at H
                        rw [hr0.out] at H
                        exact absurd H (by simp)
                      · rw [if_neg c83] at H
                        have c83b0 : (!(t386 == t336) || (!(t387 == t337) || (!(t388 == t338)))) = false := by simpa using c83
                        clear c83
                        by_cases c97 : (!(t382 == t332) || (!(t383 == t333) || (!(t384 == t334) || (!(t385 == t335))))) = true
                        · rw [if_pos c97] at H
                          rw [hr0.out] at H
                          exact absurd H (by simp)
                        · rw [if_neg c97] at H
                          have c97b0 : (!(t382 == t332) || (!(t383 == t333) || (!(t384 == t334) || (!(t385 == t335))))) = false := by simpa using c97
                          clear c97
                          by_cases c111 : t391 = t341
                          · rw [if_pos c111] at H
                            have c111b0 : (t391 == t341) = true := beq_iff_eq.mpr c111
                            have c111b1 : (t391 != t341) = false := bne_eq_false_iff_eq.mpr c111
                            clear c111
                            have H' := Aside0.mk H
                            clear H
                            have hnb112 := NB343_330.out
                            have hnc112 := NB330_343.out
                            have hnb113 := NB343_356.out
                            have hnc113 := NB356_343.out
                            have hnb114 := NB343_394.out
                            have hnc114 := NB394_343.out
                            have hcz115 := cc11 BK343.out
                            go_wp2_with (first | ((with_reducible refine gate_dst (N := 9) rfl ?_); refine box_event ?hg (N := 9) ?hd (cs := #[.int .i64 0, .int .i64 0, .int .i64 0, .bool false, .int .i64 0, .int .i64 0, .int .i64 0, .int .i64 0, .int .i64 0, .int .u32 0, .int .i64 0]) (t := 34) ?hr ?_; (case hd => rfl); (case hg => rfl); (case hr => first | (go_simp; done) | (go_simp; rfl)); intro gb398 hg w116 hbox hb; have n0_ := A0 (blk_below (by (with_reducible repeat (first | refine q1 ?_ _ | refine q2 ?_ | refine q3 ?_ _)); exact BK330.out) hb); have n1_ := A0 (blk_below (by (with_reducible repeat (first | refine q1 ?_ _ | refine q2 ?_ | refine q3 ?_ _)); exact BK343.out) hb); have n2_ := A0 (blk_below (by (with_reducible repeat (first | refine q1 ?_ _ | refine q2 ?_ | refine q3 ?_ _)); exact BK356.out) hb); have n3_ := A0 (blk_below (by (with_reducible repeat (first | refine q1 ?_ _ | refine q2 ?_ | refine q3 ?_ _)); exact BK394.out) hb); have n4_ := A0 (below_step (by repeat (first | (with_reducible first | exact HB.out | apply b1 | apply b2 | apply b3 | refine below_set ?_ GE330.out | refine below_set ?_ GE343.out | refine below_set ?_ GE356.out | refine below_set ?_ GE394.out) | exact HB.out)) hb); have n5_ := A0 (hbox); have n6_ := A0 ((by rw [hg]; exact (below_size (by repeat (first | (with_reducible first | exact HB.out | apply b1 | apply b2 | apply b3 | refine below_set ?_ GE330.out | refine below_set ?_ GE343.out | refine below_set ?_ GE356.out | refine below_set ?_ GE394.out) | exact HB.out))) : w.heap.size ≤ gb398)); have n7_ := n6_; have n8_ := A0 ((by rw [hg]; exact Nat.ne_of_lt (blk_lt (g := gb330) (o := .cells #[.int .i64 a0_0, .int .i64 a0_1, .int .i64 a0_2, .bool a0_3, .int .i64 a0_4, .int .i64 a0_5, .int .i64 a0_6, .int .i64 a0_7, .int .i64 a0_8, .int .u32 a0_9, .int .i64 a0_10] 29 (0, 0)) (by (with_reducible repeat (first | refine q1 ?_ _ | refine q2 ?_ | refine q3 ?_ _)); exact BK330.out)) : gb330 ≠ gb398)); have n9_ := A0 ((by rw [hg]; exact Nat.ne_of_gt (blk_lt (g := gb330) (o := .cells #[.int .i64 a0_0, .int .i64 a0_1, .int .i64 a0_2, .bool a0_3, .int .i64 a0_4, .int .i64 a0_5, .int .i64 a0_6, .int .i64 a0_7, .int .i64 a0_8, .int .u32 a0_9, .int .i64 a0_10] 29 (0, 0)) (by (with_reducible repeat (first | refine q1 ?_ _ | refine q2 ?_ | refine q3 ?_ _)); exact BK330.out)) : gb398 ≠ gb330)); have n10_ := A0 ((by rw [hg]; exact Nat.ne_of_lt (blk_lt (g := gb343) (o := .cells #[.int .i64 t332, .int .i64 t333, .int .i64 t334, .bool t335, .int .i64 t336, .int .i64 t337, .int .i64 t338, .int .i64 t339, .int .i64 t340, .int .u32 t341, .int .i64 t342] 34 (0, 0)) (by (with_reducible repeat (first | refine q1 ?_ _ | refine q2 ?_ | refine q3 ?_ _)); exact BK343.out)) : gb343 ≠ gb398)); have n11_ := A0 ((by rw [hg]; exact Nat.ne_of_gt (blk_lt (g := gb343) (o := .cells #[.int .i64 t332, .int .i64 t333, .int .i64 t334, .bool t335, .int .i64 t336, .int .i64 t337, .int .i64 t338, .int .i64 t339, .int .i64 t340, .int .u32 t341, .int .i64 t342] 34 (0, 0)) (by (with_reducible repeat (first | refine q1 ?_ _ | refine q2 ?_ | refine q3 ?_ _)); exact BK343.out)) : gb398 ≠ gb343)); have n12_ := A0 ((by rw [hg]; exact Nat.ne_of_lt (blk_lt (g := gb356) (o := .cells #[.int .i64 t344, .int .i64 t345, .int .i64 t346, .bool t347, .int .i64 t348, .int .i64 t349, .int .i64 t350, .int .i64 t351, .int .i64 t352, .int .u32 t353, .int .i64 t354] 34 (0, 0)) (by (with_reducible repeat (first | refine q1 ?_ _ | refine q2 ?_ | refine q3 ?_ _)); exact BK356.out)) : gb356 ≠ gb398)); have n13_ := A0 ((by rw [hg]; exact Nat.ne_of_gt (blk_lt (g := gb356) (o := .cells #[.int .i64 t344, .int .i64 t345, .int .i64 t346, .bool t347, .int .i64 t348, .int .i64 t349, .int .i64 t350, .int .i64 t351, .int .i64 t352, .int .u32 t353, .int .i64 t354] 34 (0, 0)) (by (with_reducible repeat (first | refine q1 ?_ _ | refine q2 ?_ | refine q3 ?_ _)); exact BK356.out)) : gb398 ≠ gb356)); have n14_ := A0 ((by rw [hg]; exact Nat.ne_of_lt (blk_lt (g := gb394) (o := .cells #[.int .i64 t382, .int .i64 t383, .int .i64 t384, .bool t385, .int .i64 t386, .int .i64 t387, .int .i64 t388, .int .i64 t389, .int .i64 t390, .int .u32 t391, .int .i64 t392] 34 (0, 0)) (by (with_reducible repeat (first | refine q1 ?_ _ | refine q2 ?_ | refine q3 ?_ _)); exact BK394.out)) : gb394 ≠ gb398)); have n15_ := A0 ((by rw [hg]; exact Nat.ne_of_gt (blk_lt (g := gb394) (o := .cells #[.int .i64 t382, .int .i64 t383, .int .i64 t384, .bool t385, .int .i64 t386, .int .i64 t387, .int .i64 t388, .int .i64 t389, .int .i64 t390, .int .u32 t391, .int .i64 t392] 34 (0, 0)) (by (with_reducible repeat (first | refine q1 ?_ _ | refine q2 ?_ | refine q3 ?_ _)); exact BK394.out)) : gb398 ≠ gb394)); clear BK330; clear BK343; clear BK356; clear BK394; clear HB; have BK330 := n0_; have BK343 := n1_; have BK356 := n2_; have BK394 := n3_; have HB := n4_; have BK398 := n5_; have GW398 := n6_; have GE398 := n7_; have NB330_398 := n8_; have NB398_330 := n9_; have NB343_398 := n10_; have NB398_343 := n11_; have NB356_398 := n12_; have NB398_356 := n13_; have NB394_398 := n14_; have NB398_394 := n15_; clear n0_ n1_ n2_ n3_ n4_ n5_ n6_ n7_ n8_ n9_ n10_ n11_ n12_ n13_ n14_ n15_; clear hb hbox hg; have hnb117 := NB398_330.out; have hnc117 := NB330_398.out; have hnb118 := NB398_343.out; have hnc118 := NB343_398.out; have hnb119 := NB398_356.out; have hnc119 := NB356_398.out; have hnb120 := NB398_394.out; have hnc120 := NB394_398.out; have hcz121 := cc11 BK398.out; have hnb122 := NB394_330.out; have hnc122 := NB330_394.out; have hnb123 := NB394_356.out; have hnc123 := NB356_394.out; have hcz124 := cc11 BK394.out))
                            go_meet
                            case rel => exact ⟨_, H', ⟨by have := HJ7.out; have := HJ44.out; first | omega | exact Nat.le_refl _⟩, ⟨by (with_reducible repeat (first | refine q1 ?_ _ | refine q2 ?_ | refine q3 ?_ _)); refine blk_far ?_ NB330_398.out _; (with_reducible repeat (first | refine q1 ?_ _ | refine q2 ?_ | refine q3 ?_ _)); refine blk_far ?_ NB330_398.out _; (with_reducible repeat (first | refine q1 ?_ _ | refine q2 ?_ | refine q3 ?_ _)); refine blk_far ?_ NB330_398.out _; (with_reducible repeat (first | refine q1 ?_ _ | refine q2 ?_ | refine q3 ?_ _)); refine blk_far ?_ NB330_398.out _; (with_reducible repeat (first | refine q1 ?_ _ | refine q2 ?_ | refine q3 ?_ _)); refine blk_far ?_ NB330_398.out _; (with_reducible repeat (first | refine q1 ?_ _ | refine q2 ?_ | refine q3 ?_ _)); refine blk_far ?_ NB330_398.out _; (with_reducible repeat (first | refine q1 ?_ _ | refine q2 ?_ | refine q3 ?_ _)); refine blk_far ?_ NB330_398.out _; (with_reducible repeat (first | refine q1 ?_ _ | refine q2 ?_ | refine q3 ?_ _)); refine blk_far ?_ NB330_398.out _; (with_reducible repeat (first | refine q1 ?_ _ | refine q2 ?_ | refine q3 ?_ _)); refine blk_far ?_ NB330_398.out _; (with_reducible repeat (first | refine q1 ?_ _ | refine q2 ?_ | refine q3 ?_ _)); refine blk_far ?_ NB330_398.out _; (with_reducible repeat (first | refine q1 ?_ _ | refine q2 ?_ | refine q3 ?_ _)); refine blk_far ?_ NB330_398.out _; (with_reducible repeat (first | refine q1 ?_ _ | refine q2 ?_ | refine q3 ?_ _)); exact BK330.out⟩, ⟨by (with_reducible repeat (first | refine q1 ?_ _ | refine q2 ?_ | refine q3 ?_ _)); refine blk_far ?_ NB343_398.out _; (with_reducible repeat (first | refine q1 ?_ _ | refine q2 ?_ | refine q3 ?_ _)); refine blk_far ?_ NB343_398.out _; (with_reducible repeat (first | refine q1 ?_ _ | refine q2 ?_ | refine q3 ?_ _)); refine blk_far ?_ NB343_398.out _; (with_reducible repeat (first | refine q1 ?_ _ | refine q2 ?_ | refine q3 ?_ _)); refine blk_far ?_ NB343_398.out _; (with_reducible repeat (first | refine q1 ?_ _ | refine q2 ?_ | refine q3 ?_ _)); refine blk_far ?_ NB343_398.out _; (with_reducible repeat (first | refine q1 ?_ _ | refine q2 ?_ | refine q3 ?_ _)); refine blk_far ?_ NB343_398.out _; (with_reducible repeat (first | refine q1 ?_ _ | refine q2 ?_ | refine q3 ?_ _)); refine blk_far ?_ NB343_398.out _; (with_reducible repeat (first | refine q1 ?_ _ | refine q2 ?_ | refine q3 ?_ _)); refine blk_far ?_ NB343_398.out _; (with_reducible repeat (first | refine q1 ?_ _ | refine q2 ?_ | refine q3 ?_ _)); refine blk_far ?_ NB343_398.out _; (with_reducible repeat (first | refine q1 ?_ _ | refine q2 ?_ | refine q3 ?_ _)); refine blk_far ?_ NB343_398.out _; (with_reducible repeat (first | refine q1 ?_ _ | refine q2 ?_ | refine q3 ?_ _)); refine blk_far ?_ NB343_398.out _; (with_reducible repeat (first | refine q1 ?_ _ | refine q2 ?_ | refine q3 ?_ _)); exact BK343.out⟩, ⟨by (with_reducible repeat (first | refine q1 ?_ _ | refine q2 ?_ | refine q3 ?_ _)); refine blk_far ?_ NB356_398.out _; (with_reducible repeat (first | refine q1 ?_ _ | refine q2 ?_ | refine q3 ?_ _)); refine blk_far ?_ NB356_398.out _; (with_reducible repeat (first | refine q1 ?_ _ | refine q2 ?_ | refine q3 ?_ _)); refine blk_far ?_ NB356_398.out _; (with_reducible repeat (first | refine q1 ?_ _ | refine q2 ?_ | refine q3 ?_ _)); refine blk_far ?_ NB356_398.out _; (with_reducible repeat (first | refine q1 ?_ _ | refine q2 ?_ | refine q3 ?_ _)); refine blk_far ?_ NB356_398.out _; (with_reducible repeat (first | refine q1 ?_ _ | refine q2 ?_ | refine q3 ?_ _)); refine blk_far ?_ NB356_398.out _; (with_reducible repeat (first | refine q1 ?_ _ | refine q2 ?_ | refine q3 ?_ _)); refine blk_far ?_ NB356_398.out _; (with_reducible repeat (first | refine q1 ?_ _ | refine q2 ?_ | refine q3 ?_ _)); refine blk_far ?_ NB356_398.out _; (with_reducible repeat (first | refine q1 ?_ _ | refine q2 ?_ | refine q3 ?_ _)); refine blk_far ?_ NB356_398.out _; (with_reducible repeat (first | refine q1 ?_ _ | refine q2 ?_ | refine q3 ?_ _)); refine blk_far ?_ NB356_398.out _; (with_reducible repeat (first | refine q1 ?_ _ | refine q2 ?_ | refine q3 ?_ _)); refine blk_far ?_ NB356_398.out _; (with_reducible repeat (first | refine q1 ?_ _ | refine q2 ?_ | refine q3 ?_ _)); exact BK356.out⟩, ⟨by (with_reducible repeat (first | refine q1 ?_ _ | refine q2 ?_ | refine q3 ?_ _)); refine blk_far ?_ NB394_398.out _; (with_reducible repeat (first | refine q1 ?_ _ | refine q2 ?_ | refine q3 ?_ _)); refine blk_far ?_ NB394_398.out _; (with_reducible repeat (first | refine q1 ?_ _ | refine q2 ?_ | refine q3 ?_ _)); refine blk_far ?_ NB394_398.out _; (with_reducible repeat (first | refine q1 ?_ _ | refine q2 ?_ | refine q3 ?_ _)); refine blk_far ?_ NB394_398.out _; (with_reducible repeat (first | refine q1 ?_ _ | refine q2 ?_ | refine q3 ?_ _)); refine blk_far ?_ NB394_398.out _; (with_reducible repeat (first | refine q1 ?_ _ | refine q2 ?_ | refine q3 ?_ _)); refine blk_far ?_ NB394_398.out _; (with_reducible repeat (first | refine q1 ?_ _ | refine q2 ?_ | refine q3 ?_ _)); refine blk_far ?_ NB394_398.out _; (with_reducible repeat (first | refine q1 ?_ _ | refine q2 ?_ | refine q3 ?_ _)); refine blk_far ?_ NB394_398.out _; (with_reducible repeat (first | refine q1 ?_ _ | refine q2 ?_ | refine q3 ?_ _)); refine blk_far ?_ NB394_398.out _; (with_reducible repeat (first | refine q1 ?_ _ | refine q2 ?_ | refine q3 ?_ _)); refine blk_far ?_ NB394_398.out _; (with_reducible repeat (first | refine q1 ?_ _ | refine q2 ?_ | refine q3 ?_ _)); refine blk_far ?_ NB394_398.out _; (with_reducible repeat (first | refine q1 ?_ _ | refine q2 ?_ | refine q3 ?_ _)); exact BK394.out⟩, ⟨by repeat (first | (with_reducible first | exact HB.out | apply b1 | apply b2 | apply b3 | refine below_set ?_ GE330.out | refine below_set ?_ GE343.out | refine below_set ?_ GE356.out | refine below_set ?_ GE394.out | refine below_set ?_ GE398.out) | exact HB.out)⟩⟩
                          · rw [if_neg c111] at H
                            rw [hr0.out] at H
                            exact absurd H (by simp)
                    · rw [if_neg c82] at H
                      rw [hr0.out] at H
                      exact absurd H (by simp)
                  · rw [if_neg c81] at H
                    rw [hr0.out] at H
                    exact absurd H (by simp)
                · have H1 : (some false) = some r := by rw [if_neg (show ¬ (some q399).isNone = true by simp)] at H; exact H
                  rw [hr0.out] at H1
                  exact absurd H1 (by simp)
            case rest =>
              clear HC68
              try clear c1
              try clear p2
              try clear q3
              try clear c5
              try clear c6
              try clear c7
              try clear c8
              try clear c9
              try clear c10
              try clear c11
              try clear c12
              try clear c13
              try clear c14
              try clear c15
              try clear c16
              try clear c17
              try clear q35
              try clear q39
              try clear c56
              try clear c58
              try clear c59
              try clear c60
              try clear c63
              try clear c64
              try clear c65
              try clear c69
              try clear c71
              try clear c72
              try clear c72b0
              try clear c73
              try clear c74
              try clear c75
              try clear c77
              try clear c78
              try clear c79
              try clear c81
              try clear c81b0
              try clear c81b1
              try clear c82
              try clear c82b0
              try clear c82b1
              try clear c83
              try clear c83b0
              try clear c84
              try clear c85
              try clear c86
              try clear c89
              try clear c90
              try clear c91
              try clear c92
              try clear c94
              try clear c95
              try clear c97
              try clear c97b0
              try clear c98
              try clear c99
              try clear c100
              try clear c103
              try clear c104
              try clear c105
              try clear c106
              try clear c108
              try clear c109
              try clear c111
              try clear c111b0
              try clear c111b1
              try clear c112
              try clear c113
              try clear c114
              try clear c117
              try clear c118
              try clear c119
              try clear c120
              try clear c122
              try clear c123
              try clear c125
              try clear c126
              try clear c127
              try clear c130
              try clear c131
              try clear c132
              try clear c133
              try clear c135
              try clear c136
              try clear c138
              try clear c139
              try clear c140
              try clear c143
              try clear c144
              try clear c145
              try clear c146
              try clear c148
              try clear c149
              try clear c151
              try clear c152
              try clear c153
              try clear c156
              try clear c157
              try clear c158
              try clear c159
              try clear c161
              try clear c162
              try clear c164
              try clear c165
              try clear c166
              try clear c169
              try clear c170
              try clear c171
              try clear c172
              try clear hcz101_0
              try clear hcz101_1
              try clear hcz101_10
              try clear hcz101_2
              try clear hcz101_3
              try clear hcz101_4
              try clear hcz101_5
              try clear hcz101_6
              try clear hcz101_7
              try clear hcz101_8
              try clear hcz101_9
              try clear hcz107_0
              try clear hcz107_1
              try clear hcz107_10
              try clear hcz107_2
              try clear hcz107_3
              try clear hcz107_4
              try clear hcz107_5
              try clear hcz107_6
              try clear hcz107_7
              try clear hcz107_8
              try clear hcz107_9
              try clear hcz110_0
              try clear hcz110_1
              try clear hcz110_10
              try clear hcz110_2
              try clear hcz110_3
              try clear hcz110_4
              try clear hcz110_5
              try clear hcz110_6
              try clear hcz110_7
              try clear hcz110_8
              try clear hcz110_9
              try clear hcz115_0
              try clear hcz115_1
              try clear hcz115_10
              try clear hcz115_2
              try clear hcz115_3
              try clear hcz115_4
              try clear hcz115_5
              try clear hcz115_6
              try clear hcz115_7
              try clear hcz115_8
              try clear hcz115_9
              try clear hcz11_0
              try clear hcz11_1
              try clear hcz11_10
              try clear hcz11_2
              try clear hcz11_3
              try clear hcz11_4
              try clear hcz11_5
              try clear hcz11_6
              try clear hcz11_7
              try clear hcz11_8
              try clear hcz11_9
              try clear hcz121_0
              try clear hcz121_1
              try clear hcz121_10
              try clear hcz121_2
              try clear hcz121_3
              try clear hcz121_4
              try clear hcz121_5
              try clear hcz121_6
              try clear hcz121_7
              try clear hcz121_8
              try clear hcz121_9
              try clear hcz124_0
              try clear hcz124_1
              try clear hcz124_10
              try clear hcz124_2
              try clear hcz124_3
              try clear hcz124_4
              try clear hcz124_5
              try clear hcz124_6
              try clear hcz124_7
              try clear hcz124_8
              try clear hcz124_9
              try clear hcz128_0
              try clear hcz128_1
              try clear hcz128_10
              try clear hcz128_2
              try clear hcz128_3
              try clear hcz128_4
              try clear hcz128_5
              try clear hcz128_6
              try clear hcz128_7
              try clear hcz128_8
              try clear hcz128_9
              try clear hcz134_0
              try clear hcz134_1
              try clear hcz134_10
              try clear hcz134_2
              try clear hcz134_3
              try clear hcz134_4
              try clear hcz134_5
              try clear hcz134_6
              try clear hcz134_7
              try clear hcz134_8
              try clear hcz134_9
              try clear hcz137_0
              try clear hcz137_1
              try clear hcz137_10
              try clear hcz137_2
              try clear hcz137_3
              try clear hcz137_4
              try clear hcz137_5
              try clear hcz137_6
              try clear hcz137_7
              try clear hcz137_8
              try clear hcz137_9
              try clear hcz141_0
              try clear hcz141_1
              try clear hcz141_10
              try clear hcz141_2
              try clear hcz141_3
              try clear hcz141_4
              try clear hcz141_5
              try clear hcz141_6
              try clear hcz141_7
              try clear hcz141_8
              try clear hcz141_9
              try clear hcz147_0
              try clear hcz147_1
              try clear hcz147_10
              try clear hcz147_2
              try clear hcz147_3
              try clear hcz147_4
              try clear hcz147_5
              try clear hcz147_6
              try clear hcz147_7
              try clear hcz147_8
              try clear hcz147_9
              try clear hcz150_0
              try clear hcz150_1
              try clear hcz150_10
              try clear hcz150_2
              try clear hcz150_3
              try clear hcz150_4
              try clear hcz150_5
              try clear hcz150_6
              try clear hcz150_7
              try clear hcz150_8
              try clear hcz150_9
              try clear hcz154_0
              try clear hcz154_1
              try clear hcz154_10
              try clear hcz154_2
              try clear hcz154_3
              try clear hcz154_4
              try clear hcz154_5
              try clear hcz154_6
              try clear hcz154_7
              try clear hcz154_8
              try clear hcz154_9
              try clear hcz15_0
              try clear hcz15_1
              try clear hcz15_10
              try clear hcz15_2
              try clear hcz15_3
              try clear hcz15_4
              try clear hcz15_5
              try clear hcz15_6
              try clear hcz15_7
              try clear hcz15_8
              try clear hcz15_9
              try clear hcz160_0
              try clear hcz160_1
              try clear hcz160_10
              try clear hcz160_2
              try clear hcz160_3
              try clear hcz160_4
              try clear hcz160_5
              try clear hcz160_6
              try clear hcz160_7
              try clear hcz160_8
              try clear hcz160_9
              try clear hcz163_0
              try clear hcz163_1
              try clear hcz163_10
              try clear hcz163_2
              try clear hcz163_3
              try clear hcz163_4
              try clear hcz163_5
              try clear hcz163_6
              try clear hcz163_7
              try clear hcz163_8
              try clear hcz163_9
              try clear hcz167_0
              try clear hcz167_1
              try clear hcz167_10
              try clear hcz167_2
              try clear hcz167_3
              try clear hcz167_4
              try clear hcz167_5
              try clear hcz167_6
              try clear hcz167_7
              try clear hcz167_8
              try clear hcz167_9
              try clear hcz173_0
              try clear hcz173_1
              try clear hcz173_10
              try clear hcz173_2
              try clear hcz173_3
              try clear hcz173_4
              try clear hcz173_5
              try clear hcz173_6
              try clear hcz173_7
              try clear hcz173_8
              try clear hcz173_9
              try clear hcz20_0
              try clear hcz20_1
              try clear hcz20_10
              try clear hcz20_2
              try clear hcz20_3
              try clear hcz20_4
              try clear hcz20_5
              try clear hcz20_6
              try clear hcz20_7
              try clear hcz20_8
              try clear hcz20_9
              try clear hcz27_0
              try clear hcz27_1
              try clear hcz27_10
              try clear hcz27_2
              try clear hcz27_3
              try clear hcz27_4
              try clear hcz27_5
              try clear hcz27_6
              try clear hcz27_7
              try clear hcz27_8
              try clear hcz27_9
              try clear hcz32_0
              try clear hcz32_1
              try clear hcz32_10
              try clear hcz32_2
              try clear hcz32_3
              try clear hcz32_4
              try clear hcz32_5
              try clear hcz32_6
              try clear hcz32_7
              try clear hcz32_8
              try clear hcz32_9
              try clear hcz40_0
              try clear hcz40_1
              try clear hcz40_10
              try clear hcz40_2
              try clear hcz40_3
              try clear hcz40_4
              try clear hcz40_5
              try clear hcz40_6
              try clear hcz40_7
              try clear hcz40_8
              try clear hcz40_9
              try clear hcz43_0
              try clear hcz43_1
              try clear hcz43_10
              try clear hcz43_2
              try clear hcz43_3
              try clear hcz43_4
              try clear hcz43_5
              try clear hcz43_6
              try clear hcz43_7
              try clear hcz43_8
              try clear hcz43_9
              try clear hcz48_0
              try clear hcz48_1
              try clear hcz48_10
              try clear hcz48_2
              try clear hcz48_3
              try clear hcz48_4
              try clear hcz48_5
              try clear hcz48_6
              try clear hcz48_7
              try clear hcz48_8
              try clear hcz48_9
              try clear hcz54_0
              try clear hcz54_1
              try clear hcz54_10
              try clear hcz54_2
              try clear hcz54_3
              try clear hcz54_4
              try clear hcz54_5
              try clear hcz54_6
              try clear hcz54_7
              try clear hcz54_8
              try clear hcz54_9
              try clear hcz61_0
              try clear hcz61_1
              try clear hcz61_10
              try clear hcz61_2
              try clear hcz61_3
              try clear hcz61_4
              try clear hcz61_5
              try clear hcz61_6
              try clear hcz61_7
              try clear hcz61_8
              try clear hcz61_9
              try clear hcz66_0
              try clear hcz66_1
              try clear hcz66_10
              try clear hcz66_2
              try clear hcz66_3
              try clear hcz66_4
              try clear hcz66_5
              try clear hcz66_6
              try clear hcz66_7
              try clear hcz66_8
              try clear hcz66_9
              try clear hcz76_0
              try clear hcz76_1
              try clear hcz76_10
              try clear hcz76_2
              try clear hcz76_3
              try clear hcz76_4
              try clear hcz76_5
              try clear hcz76_6
              try clear hcz76_7
              try clear hcz76_8
              try clear hcz76_9
              try clear hcz80_0
              try clear hcz80_1
              try clear hcz80_10
              try clear hcz80_2
              try clear hcz80_3
              try clear hcz80_4
              try clear hcz80_5
              try clear hcz80_6
              try clear hcz80_7
              try clear hcz80_8
              try clear hcz80_9
              try clear hcz87_0
              try clear hcz87_1
              try clear hcz87_10
              try clear hcz87_2
              try clear hcz87_3
              try clear hcz87_4
              try clear hcz87_5
              try clear hcz87_6
              try clear hcz87_7
              try clear hcz87_8
              try clear hcz87_9
              try clear hcz93_0
              try clear hcz93_1
              try clear hcz93_10
              try clear hcz93_2
              try clear hcz93_3
              try clear hcz93_4
              try clear hcz93_5
              try clear hcz93_6
              try clear hcz93_7
              try clear hcz93_8
              try clear hcz93_9
              try clear hcz96_0
              try clear hcz96_1
              try clear hcz96_10
              try clear hcz96_2
              try clear hcz96_3
              try clear hcz96_4
              try clear hcz96_5
              try clear hcz96_6
              try clear hcz96_7
              try clear hcz96_8
              try clear hcz96_9
              try clear hfz101_0
              try clear hfz101_1
              try clear hfz101_10
              try clear hfz101_2
              try clear hfz101_3
              try clear hfz101_4
              try clear hfz101_5
              try clear hfz101_6
              try clear hfz101_7
              try clear hfz101_8
              try clear hfz101_9
              try clear hfz107_0
              try clear hfz107_1
              try clear hfz107_10
              try clear hfz107_2
              try clear hfz107_3
              try clear hfz107_4
              try clear hfz107_5
              try clear hfz107_6
              try clear hfz107_7
              try clear hfz107_8
              try clear hfz107_9
              try clear hfz110_0
              try clear hfz110_1
              try clear hfz110_10
              try clear hfz110_2
              try clear hfz110_3
              try clear hfz110_4
              try clear hfz110_5
              try clear hfz110_6
              try clear hfz110_7
              try clear hfz110_8
              try clear hfz110_9
              try clear hfz115_0
              try clear hfz115_1
              try clear hfz115_10
              try clear hfz115_2
              try clear hfz115_3
              try clear hfz115_4
              try clear hfz115_5
              try clear hfz115_6
              try clear hfz115_7
              try clear hfz115_8
              try clear hfz115_9
              try clear hfz11_0
              try clear hfz11_1
              try clear hfz11_10
              try clear hfz11_2
              try clear hfz11_3
              try clear hfz11_4
              try clear hfz11_5
              try clear hfz11_6
              try clear hfz11_7
              try clear hfz11_8
              try clear hfz11_9
              try clear hfz121_0
              try clear hfz121_1
              try clear hfz121_10
              try clear hfz121_2
              try clear hfz121_3
              try clear hfz121_4
              try clear hfz121_5
              try clear hfz121_6
              try clear hfz121_7
              try clear hfz121_8
              try clear hfz121_9
              try clear hfz124_0
              try clear hfz124_1
              try clear hfz124_10
              try clear hfz124_2
              try clear hfz124_3
              try clear hfz124_4
              try clear hfz124_5
              try clear hfz124_6
              try clear hfz124_7
              try clear hfz124_8
              try clear hfz124_9
              try clear hfz128_0
              try clear hfz128_1
              try clear hfz128_10
              try clear hfz128_2
              try clear hfz128_3
              try clear hfz128_4
              try clear hfz128_5
              try clear hfz128_6
              try clear hfz128_7
              try clear hfz128_8
              try clear hfz128_9
              try clear hfz134_0
              try clear hfz134_1
              try clear hfz134_10
              try clear hfz134_2
              try clear hfz134_3
              try clear hfz134_4
              try clear hfz134_5
              try clear hfz134_6
              try clear hfz134_7
              try clear hfz134_8
              try clear hfz134_9
              try clear hfz137_0
              try clear hfz137_1
              try clear hfz137_10
              try clear hfz137_2
              try clear hfz137_3
              try clear hfz137_4
              try clear hfz137_5
              try clear hfz137_6
              try clear hfz137_7
              try clear hfz137_8
              try clear hfz137_9
              try clear hfz141_0
              try clear hfz141_1
              try clear hfz141_10
              try clear hfz141_2
              try clear hfz141_3
              try clear hfz141_4
              try clear hfz141_5
              try clear hfz141_6
              try clear hfz141_7
              try clear hfz141_8
              try clear hfz141_9
              try clear hfz147_0
              try clear hfz147_1
              try clear hfz147_10
              try clear hfz147_2
              try clear hfz147_3
              try clear hfz147_4
              try clear hfz147_5
              try clear hfz147_6
              try clear hfz147_7
              try clear hfz147_8
              try clear hfz147_9
              try clear hfz150_0
              try clear hfz150_1
              try clear hfz150_10
              try clear hfz150_2
              try clear hfz150_3
              try clear hfz150_4
              try clear hfz150_5
              try clear hfz150_6
              try clear hfz150_7
              try clear hfz150_8
              try clear hfz150_9
              try clear hfz154_0
              try clear hfz154_1
              try clear hfz154_10
              try clear hfz154_2
              try clear hfz154_3
              try clear hfz154_4
              try clear hfz154_5
              try clear hfz154_6
              try clear hfz154_7
              try clear hfz154_8
              try clear hfz154_9
              try clear hfz15_0
              try clear hfz15_1
              try clear hfz15_10
              try clear hfz15_2
              try clear hfz15_3
              try clear hfz15_4
              try clear hfz15_5
              try clear hfz15_6
              try clear hfz15_7
              try clear hfz15_8
              try clear hfz15_9
              try clear hfz160_0
              try clear hfz160_1
              try clear hfz160_10
              try clear hfz160_2
              try clear hfz160_3
              try clear hfz160_4
              try clear hfz160_5
              try clear hfz160_6
              try clear hfz160_7
              try clear hfz160_8
              try clear hfz160_9
              try clear hfz163_0
              try clear hfz163_1
              try clear hfz163_10
              try clear hfz163_2
              try clear hfz163_3
              try clear hfz163_4
              try clear hfz163_5
              try clear hfz163_6
              try clear hfz163_7
              try clear hfz163_8
              try clear hfz163_9
              try clear hfz167_0
              try clear hfz167_1
              try clear hfz167_10
              try clear hfz167_2
              try clear hfz167_3
              try clear hfz167_4
              try clear hfz167_5
              try clear hfz167_6
              try clear hfz167_7
              try clear hfz167_8
              try clear hfz167_9
              try clear hfz173_0
              try clear hfz173_1
              try clear hfz173_10
              try clear hfz173_2
              try clear hfz173_3
              try clear hfz173_4
              try clear hfz173_5
              try clear hfz173_6
              try clear hfz173_7
              try clear hfz173_8
              try clear hfz173_9
              try clear hfz20_0
              try clear hfz20_1
              try clear hfz20_10
              try clear hfz20_2
              try clear hfz20_3
              try clear hfz20_4
              try clear hfz20_5
              try clear hfz20_6
              try clear hfz20_7
              try clear hfz20_8
              try clear hfz20_9
              try clear hfz27_0
              try clear hfz27_1
              try clear hfz27_10
              try clear hfz27_2
              try clear hfz27_3
              try clear hfz27_4
              try clear hfz27_5
              try clear hfz27_6
              try clear hfz27_7
              try clear hfz27_8
              try clear hfz27_9
              try clear hfz32_0
              try clear hfz32_1
              try clear hfz32_10
              try clear hfz32_2
              try clear hfz32_3
              try clear hfz32_4
              try clear hfz32_5
              try clear hfz32_6
              try clear hfz32_7
              try clear hfz32_8
              try clear hfz32_9
              try clear hfz40_0
              try clear hfz40_1
              try clear hfz40_10
              try clear hfz40_2
              try clear hfz40_3
              try clear hfz40_4
              try clear hfz40_5
              try clear hfz40_6
              try clear hfz40_7
              try clear hfz40_8
              try clear hfz40_9
              try clear hfz43_0
              try clear hfz43_1
              try clear hfz43_10
              try clear hfz43_2
              try clear hfz43_3
              try clear hfz43_4
              try clear hfz43_5
              try clear hfz43_6
              try clear hfz43_7
              try clear hfz43_8
              try clear hfz43_9
              try clear hfz48_0
              try clear hfz48_1
              try clear hfz48_10
              try clear hfz48_2
              try clear hfz48_3
              try clear hfz48_4
              try clear hfz48_5
              try clear hfz48_6
              try clear hfz48_7
              try clear hfz48_8
              try clear hfz48_9
              try clear hfz54_0
              try clear hfz54_1
              try clear hfz54_10
              try clear hfz54_2
              try clear hfz54_3
              try clear hfz54_4
              try clear hfz54_5
              try clear hfz54_6
              try clear hfz54_7
              try clear hfz54_8
              try clear hfz54_9
              try clear hfz61_0
              try clear hfz61_1
              try clear hfz61_10
              try clear hfz61_2
              try clear hfz61_3
              try clear hfz61_4
              try clear hfz61_5
              try clear hfz61_6
              try clear hfz61_7
              try clear hfz61_8
              try clear hfz61_9
              try clear hfz66_0
              try clear hfz66_1
              try clear hfz66_10
              try clear hfz66_2
              try clear hfz66_3
              try clear hfz66_4
              try clear hfz66_5
              try clear hfz66_6
              try clear hfz66_7
              try clear hfz66_8
              try clear hfz66_9
              try clear hfz76_0
              try clear hfz76_1
              try clear hfz76_10
              try clear hfz76_2
              try clear hfz76_3
              try clear hfz76_4
              try clear hfz76_5
              try clear hfz76_6
              try clear hfz76_7
              try clear hfz76_8
              try clear hfz76_9
              try clear hfz80_0
              try clear hfz80_1
              try clear hfz80_10
              try clear hfz80_2
              try clear hfz80_3
              try clear hfz80_4
              try clear hfz80_5
              try clear hfz80_6
              try clear hfz80_7
              try clear hfz80_8
              try clear hfz80_9
              try clear hfz87_0
              try clear hfz87_1
              try clear hfz87_10
              try clear hfz87_2
              try clear hfz87_3
              try clear hfz87_4
              try clear hfz87_5
              try clear hfz87_6
              try clear hfz87_7
              try clear hfz87_8
              try clear hfz87_9
              try clear hfz93_0
              try clear hfz93_1
              try clear hfz93_10
              try clear hfz93_2
              try clear hfz93_3
              try clear hfz93_4
              try clear hfz93_5
              try clear hfz93_6
              try clear hfz93_7
              try clear hfz93_8
              try clear hfz93_9
              try clear hfz96_0
              try clear hfz96_1
              try clear hfz96_10
              try clear hfz96_2
              try clear hfz96_3
              try clear hfz96_4
              try clear hfz96_5
              try clear hfz96_6
              try clear hfz96_7
              try clear hfz96_8
              try clear hfz96_9
              try clear p2
              try clear q3
              try clear q35
              try clear q358
              try clear q399
              obtain ⟨kq, HA, HJ67, BK330, BK343, BK356, BK394, HB⟩ := hcut
              cases kq with
              | zero => exact absurd HA.out (by simp [weftlinelaw13_PathFails.j2])
              | succ kj67 =>
                have H := HA.out
                clear HA
                simp only [weftlinelaw13_PathFails.j2] at H
                replace H := Option.bind_eq_some_iff.mp H
                obtain ⟨t400, A1740, H⟩ := H
                replace H : ((weftlineref13_Good.f kj67 a0_0 a0_1 a0_2 a0_3 a0_4 a0_5 a0_6 a0_7 a0_8 a0_9 a0_10).bind fun t401 => (if (t400 == t401) = true then ((path_Path_Active.f kj67 t332 t333 t334 t335 t336 t337 t338 t339 t340 t341 t342).bind fun t402 => ((weftlineref13_Active.f kj67 a0_0 a0_1 a0_2 a0_3 a0_4 a0_5 a0_6 a0_7 a0_8 a0_9 a0_10).bind fun t403 => (if (t402 == t403) = true then ((path_Path_Failed.f kj67 t332 t333 t334 t335 t336 t337 t338 t339 t340 t341 t342).bind fun bt404 => ((weftlinelaw13_Document.f bt404.1 bt404.2.1 bt404.2.2.1 bt404.2.2.2.1 bt404.2.2.2.2.1 bt404.2.2.2.2.2.1 bt404.2.2.2.2.2.2.1 bt404.2.2.2.2.2.2.2.1 bt404.2.2.2.2.2.2.2.2.1 bt404.2.2.2.2.2.2.2.2.2.1 bt404.2.2.2.2.2.2.2.2.2.2).bind fun bt415 => ((weftlineref13_Failed.f kj67 a0_0 a0_1 a0_2 a0_3 a0_4 a0_5 a0_6 a0_7 a0_8 a0_9 a0_10).bind fun bt426 => (if ((bt415.1 == bt426.1 && (bt415.2.1 == bt426.2.1 && (bt415.2.2.1 == bt426.2.2.1 && (bt415.2.2.2.1 == bt426.2.2.2.1)))) && ((bt415.2.2.2.2.1 == bt426.2.2.2.2.1 && (bt415.2.2.2.2.2.1 == bt426.2.2.2.2.2.1 && (bt415.2.2.2.2.2.2.1 == bt426.2.2.2.2.2.2.1))) && (bt415.2.2.2.2.2.2.2.1 == bt426.2.2.2.2.2.2.2.1 && (bt415.2.2.2.2.2.2.2.2.1 == bt426.2.2.2.2.2.2.2.2.1 && (bt415.2.2.2.2.2.2.2.2.2.1 == bt426.2.2.2.2.2.2.2.2.2.1 && (bt415.2.2.2.2.2.2.2.2.2.2 == bt426.2.2.2.2.2.2.2.2.2.2)))))) = true then ((path_Path_Heard.f kj67 t332 t333 t334 t335 t336 t337 t338 t339 t340 t341 t342).bind fun bt437 => ((weftlinelaw13_Document.f bt437.1 bt437.2.1 bt437.2.2.1 bt437.2.2.2.1 bt437.2.2.2.2.1 bt437.2.2.2.2.2.1 bt437.2.2.2.2.2.2.1 bt437.2.2.2.2.2.2.2.1 bt437.2.2.2.2.2.2.2.2.1 bt437.2.2.2.2.2.2.2.2.2.1 bt437.2.2.2.2.2.2.2.2.2.2).bind fun bt448 => ((weftlineref13_Heard.f kj67 a0_0 a0_1 a0_2 a0_3 a0_4 a0_5 a0_6 a0_7 a0_8 a0_9 a0_10).bind fun bt459 => (if ((bt448.1 == bt459.1 && (bt448.2.1 == bt459.2.1 && (bt448.2.2.1 == bt459.2.2.1 && (bt448.2.2.2.1 == bt459.2.2.2.1)))) && ((bt448.2.2.2.2.1 == bt459.2.2.2.2.1 && (bt448.2.2.2.2.2.1 == bt459.2.2.2.2.2.1 && (bt448.2.2.2.2.2.2.1 == bt459.2.2.2.2.2.2.1))) && (bt448.2.2.2.2.2.2.2.1 == bt459.2.2.2.2.2.2.2.1 && (bt448.2.2.2.2.2.2.2.2.1 == bt459.2.2.2.2.2.2.2.2.1 && (bt448.2.2.2.2.2.2.2.2.2.1 == bt459.2.2.2.2.2.2.2.2.2.1 && (bt448.2.2.2.2.2.2.2.2.2.2 == bt459.2.2.2.2.2.2.2.2.2.2)))))) = true then ((path_Path_Missed.f kj67 t332 t333 t334 t335 t336 t337 t338 t339 t340 t341 t342).bind fun bt470 => ((weftlinelaw13_Document.f bt470.1 bt470.2.1 bt470.2.2.1 bt470.2.2.2.1 bt470.2.2.2.2.1 bt470.2.2.2.2.2.1 bt470.2.2.2.2.2.2.1 bt470.2.2.2.2.2.2.2.1 bt470.2.2.2.2.2.2.2.2.1 bt470.2.2.2.2.2.2.2.2.2.1 bt470.2.2.2.2.2.2.2.2.2.2).bind fun bt481 => ((weftlineref13_Missed.f kj67 a0_0 a0_1 a0_2 a0_3 a0_4 a0_5 a0_6 a0_7 a0_8 a0_9 a0_10).bind fun bt492 => (some ((bt481.1 == bt492.1 && (bt481.2.1 == bt492.2.1 && (bt481.2.2.1 == bt492.2.2.1 && (bt481.2.2.2.1 == bt492.2.2.2.1)))) && ((bt481.2.2.2.2.1 == bt492.2.2.2.2.1 && (bt481.2.2.2.2.2.1 == bt492.2.2.2.2.2.1 && (bt481.2.2.2.2.2.2.1 == bt492.2.2.2.2.2.2.1))) && (bt481.2.2.2.2.2.2.2.1 == bt492.2.2.2.2.2.2.2.1 && (bt481.2.2.2.2.2.2.2.2.1 == bt492.2.2.2.2.2.2.2.2.1 && (bt481.2.2.2.2.2.2.2.2.2.1 == bt492.2.2.2.2.2.2.2.2.2.1 && (bt481.2.2.2.2.2.2.2.2.2.2 == bt492.2.2.2.2.2.2.2.2.2.2)))))))))) else (some false))))) else (some false))))) else (some false)))) else (some false))) = some r := H
                have A174 := Aside0.mk A1740
                clear A1740
                replace H := Option.bind_eq_some_iff.mp H
                obtain ⟨t401, A1750, H⟩ := H
                replace H : (if (t400 == t401) = true then ((path_Path_Active.f kj67 t332 t333 t334 t335 t336 t337 t338 t339 t340 t341 t342).bind fun t402 => ((weftlineref13_Active.f kj67 a0_0 a0_1 a0_2 a0_3 a0_4 a0_5 a0_6 a0_7 a0_8 a0_9 a0_10).bind fun t403 => (if (t402 == t403) = true then ((path_Path_Failed.f kj67 t332 t333 t334 t335 t336 t337 t338 t339 t340 t341 t342).bind fun bt404 => ((weftlinelaw13_Document.f bt404.1 bt404.2.1 bt404.2.2.1 bt404.2.2.2.1 bt404.2.2.2.2.1 bt404.2.2.2.2.2.1 bt404.2.2.2.2.2.2.1 bt404.2.2.2.2.2.2.2.1 bt404.2.2.2.2.2.2.2.2.1 bt404.2.2.2.2.2.2.2.2.2.1 bt404.2.2.2.2.2.2.2.2.2.2).bind fun bt415 => ((weftlineref13_Failed.f kj67 a0_0 a0_1 a0_2 a0_3 a0_4 a0_5 a0_6 a0_7 a0_8 a0_9 a0_10).bind fun bt426 => (if ((bt415.1 == bt426.1 && (bt415.2.1 == bt426.2.1 && (bt415.2.2.1 == bt426.2.2.1 && (bt415.2.2.2.1 == bt426.2.2.2.1)))) && ((bt415.2.2.2.2.1 == bt426.2.2.2.2.1 && (bt415.2.2.2.2.2.1 == bt426.2.2.2.2.2.1 && (bt415.2.2.2.2.2.2.1 == bt426.2.2.2.2.2.2.1))) && (bt415.2.2.2.2.2.2.2.1 == bt426.2.2.2.2.2.2.2.1 && (bt415.2.2.2.2.2.2.2.2.1 == bt426.2.2.2.2.2.2.2.2.1 && (bt415.2.2.2.2.2.2.2.2.2.1 == bt426.2.2.2.2.2.2.2.2.2.1 && (bt415.2.2.2.2.2.2.2.2.2.2 == bt426.2.2.2.2.2.2.2.2.2.2)))))) = true then ((path_Path_Heard.f kj67 t332 t333 t334 t335 t336 t337 t338 t339 t340 t341 t342).bind fun bt437 => ((weftlinelaw13_Document.f bt437.1 bt437.2.1 bt437.2.2.1 bt437.2.2.2.1 bt437.2.2.2.2.1 bt437.2.2.2.2.2.1 bt437.2.2.2.2.2.2.1 bt437.2.2.2.2.2.2.2.1 bt437.2.2.2.2.2.2.2.2.1 bt437.2.2.2.2.2.2.2.2.2.1 bt437.2.2.2.2.2.2.2.2.2.2).bind fun bt448 => ((weftlineref13_Heard.f kj67 a0_0 a0_1 a0_2 a0_3 a0_4 a0_5 a0_6 a0_7 a0_8 a0_9 a0_10).bind fun bt459 => (if ((bt448.1 == bt459.1 && (bt448.2.1 == bt459.2.1 && (bt448.2.2.1 == bt459.2.2.1 && (bt448.2.2.2.1 == bt459.2.2.2.1)))) && ((bt448.2.2.2.2.1 == bt459.2.2.2.2.1 && (bt448.2.2.2.2.2.1 == bt459.2.2.2.2.2.1 && (bt448.2.2.2.2.2.2.1 == bt459.2.2.2.2.2.2.1))) && (bt448.2.2.2.2.2.2.2.1 == bt459.2.2.2.2.2.2.2.1 && (bt448.2.2.2.2.2.2.2.2.1 == bt459.2.2.2.2.2.2.2.2.1 && (bt448.2.2.2.2.2.2.2.2.2.1 == bt459.2.2.2.2.2.2.2.2.2.1 && (bt448.2.2.2.2.2.2.2.2.2.2 == bt459.2.2.2.2.2.2.2.2.2.2)))))) = true then ((path_Path_Missed.f kj67 t332 t333 t334 t335 t336 t337 t338 t339 t340 t341 t342).bind fun bt470 => ((weftlinelaw13_Document.f bt470.1 bt470.2.1 bt470.2.2.1 bt470.2.2.2.1 bt470.2.2.2.2.1 bt470.2.2.2.2.2.1 bt470.2.2.2.2.2.2.1 bt470.2.2.2.2.2.2.2.1 bt470.2.2.2.2.2.2.2.2.1 bt470.2.2.2.2.2.2.2.2.2.1 bt470.2.2.2.2.2.2.2.2.2.2).bind fun bt481 => ((weftlineref13_Missed.f kj67 a0_0 a0_1 a0_2 a0_3 a0_4 a0_5 a0_6 a0_7 a0_8 a0_9 a0_10).bind fun bt492 => (some ((bt481.1 == bt492.1 && (bt481.2.1 == bt492.2.1 && (bt481.2.2.1 == bt492.2.2.1 && (bt481.2.2.2.1 == bt492.2.2.2.1)))) && ((bt481.2.2.2.2.1 == bt492.2.2.2.2.1 && (bt481.2.2.2.2.2.1 == bt492.2.2.2.2.2.1 && (bt481.2.2.2.2.2.2.1 == bt492.2.2.2.2.2.2.1))) && (bt481.2.2.2.2.2.2.2.1 == bt492.2.2.2.2.2.2.2.1 && (bt481.2.2.2.2.2.2.2.2.1 == bt492.2.2.2.2.2.2.2.2.1 && (bt481.2.2.2.2.2.2.2.2.2.1 == bt492.2.2.2.2.2.2.2.2.2.1 && (bt481.2.2.2.2.2.2.2.2.2.2 == bt492.2.2.2.2.2.2.2.2.2.2)))))))))) else (some false))))) else (some false))))) else (some false)))) else (some false)) = some r := H
                have A175 := Aside0.mk A1750
                clear A1750
                by_cases c176 : (t400 == t401) = true
                · rw [if_pos c176] at H
                  have c176b0 : (t400 == t401) = true := c176
                  (try (have c176b1 : decide (t400 = t401) = true := by simpa using c176))
                  (try (have c176b2 : (t400 == t401) = true := by simpa using c176))
                  clear c176
                  replace H := Option.bind_eq_some_iff.mp H
                  obtain ⟨t402, A1770, H⟩ := H
                  replace H : ((weftlineref13_Active.f kj67 a0_0 a0_1 a0_2 a0_3 a0_4 a0_5 a0_6 a0_7 a0_8 a0_9 a0_10).bind fun t403 => (if (t402 == t403) = true then ((path_Path_Failed.f kj67 t332 t333 t334 t335 t336 t337 t338 t339 t340 t341 t342).bind fun bt404 => ((weftlinelaw13_Document.f bt404.1 bt404.2.1 bt404.2.2.1 bt404.2.2.2.1 bt404.2.2.2.2.1 bt404.2.2.2.2.2.1 bt404.2.2.2.2.2.2.1 bt404.2.2.2.2.2.2.2.1 bt404.2.2.2.2.2.2.2.2.1 bt404.2.2.2.2.2.2.2.2.2.1 bt404.2.2.2.2.2.2.2.2.2.2).bind fun bt415 => ((weftlineref13_Failed.f kj67 a0_0 a0_1 a0_2 a0_3 a0_4 a0_5 a0_6 a0_7 a0_8 a0_9 a0_10).bind fun bt426 => (if ((bt415.1 == bt426.1 && (bt415.2.1 == bt426.2.1 && (bt415.2.2.1 == bt426.2.2.1 && (bt415.2.2.2.1 == bt426.2.2.2.1)))) && ((bt415.2.2.2.2.1 == bt426.2.2.2.2.1 && (bt415.2.2.2.2.2.1 == bt426.2.2.2.2.2.1 && (bt415.2.2.2.2.2.2.1 == bt426.2.2.2.2.2.2.1))) && (bt415.2.2.2.2.2.2.2.1 == bt426.2.2.2.2.2.2.2.1 && (bt415.2.2.2.2.2.2.2.2.1 == bt426.2.2.2.2.2.2.2.2.1 && (bt415.2.2.2.2.2.2.2.2.2.1 == bt426.2.2.2.2.2.2.2.2.2.1 && (bt415.2.2.2.2.2.2.2.2.2.2 == bt426.2.2.2.2.2.2.2.2.2.2)))))) = true then ((path_Path_Heard.f kj67 t332 t333 t334 t335 t336 t337 t338 t339 t340 t341 t342).bind fun bt437 => ((weftlinelaw13_Document.f bt437.1 bt437.2.1 bt437.2.2.1 bt437.2.2.2.1 bt437.2.2.2.2.1 bt437.2.2.2.2.2.1 bt437.2.2.2.2.2.2.1 bt437.2.2.2.2.2.2.2.1 bt437.2.2.2.2.2.2.2.2.1 bt437.2.2.2.2.2.2.2.2.2.1 bt437.2.2.2.2.2.2.2.2.2.2).bind fun bt448 => ((weftlineref13_Heard.f kj67 a0_0 a0_1 a0_2 a0_3 a0_4 a0_5 a0_6 a0_7 a0_8 a0_9 a0_10).bind fun bt459 => (if ((bt448.1 == bt459.1 && (bt448.2.1 == bt459.2.1 && (bt448.2.2.1 == bt459.2.2.1 && (bt448.2.2.2.1 == bt459.2.2.2.1)))) && ((bt448.2.2.2.2.1 == bt459.2.2.2.2.1 && (bt448.2.2.2.2.2.1 == bt459.2.2.2.2.2.1 && (bt448.2.2.2.2.2.2.1 == bt459.2.2.2.2.2.2.1))) && (bt448.2.2.2.2.2.2.2.1 == bt459.2.2.2.2.2.2.2.1 && (bt448.2.2.2.2.2.2.2.2.1 == bt459.2.2.2.2.2.2.2.2.1 && (bt448.2.2.2.2.2.2.2.2.2.1 == bt459.2.2.2.2.2.2.2.2.2.1 && (bt448.2.2.2.2.2.2.2.2.2.2 == bt459.2.2.2.2.2.2.2.2.2.2)))))) = true then ((path_Path_Missed.f kj67 t332 t333 t334 t335 t336 t337 t338 t339 t340 t341 t342).bind fun bt470 => ((weftlinelaw13_Document.f bt470.1 bt470.2.1 bt470.2.2.1 bt470.2.2.2.1 bt470.2.2.2.2.1 bt470.2.2.2.2.2.1 bt470.2.2.2.2.2.2.1 bt470.2.2.2.2.2.2.2.1 bt470.2.2.2.2.2.2.2.2.1 bt470.2.2.2.2.2.2.2.2.2.1 bt470.2.2.2.2.2.2.2.2.2.2).bind fun bt481 => ((weftlineref13_Missed.f kj67 a0_0 a0_1 a0_2 a0_3 a0_4 a0_5 a0_6 a0_7 a0_8 a0_9 a0_10).bind fun bt492 => (some ((bt481.1 == bt492.1 && (bt481.2.1 == bt492.2.1 && (bt481.2.2.1 == bt492.2.2.1 && (bt481.2.2.2.1 == bt492.2.2.2.1)))) && ((bt481.2.2.2.2.1 == bt492.2.2.2.2.1 && (bt481.2.2.2.2.2.1 == bt492.2.2.2.2.2.1 && (bt481.2.2.2.2.2.2.1 == bt492.2.2.2.2.2.2.1))) && (bt481.2.2.2.2.2.2.2.1 == bt492.2.2.2.2.2.2.2.1 && (bt481.2.2.2.2.2.2.2.2.1 == bt492.2.2.2.2.2.2.2.2.1 && (bt481.2.2.2.2.2.2.2.2.2.1 == bt492.2.2.2.2.2.2.2.2.2.1 && (bt481.2.2.2.2.2.2.2.2.2.2 == bt492.2.2.2.2.2.2.2.2.2.2)))))))))) else (some false))))) else (some false))))) else (some false))) = some r := H
                  have A177 := Aside0.mk A1770
                  clear A1770
                  replace H := Option.bind_eq_some_iff.mp H
                  obtain ⟨t403, A1780, H⟩ := H
                  replace H : (if (t402 == t403) = true then ((path_Path_Failed.f kj67 t332 t333 t334 t335 t336 t337 t338 t339 t340 t341 t342).bind fun bt404 => ((weftlinelaw13_Document.f bt404.1 bt404.2.1 bt404.2.2.1 bt404.2.2.2.1 bt404.2.2.2.2.1 bt404.2.2.2.2.2.1 bt404.2.2.2.2.2.2.1 bt404.2.2.2.2.2.2.2.1 bt404.2.2.2.2.2.2.2.2.1 bt404.2.2.2.2.2.2.2.2.2.1 bt404.2.2.2.2.2.2.2.2.2.2).bind fun bt415 => ((weftlineref13_Failed.f kj67 a0_0 a0_1 a0_2 a0_3 a0_4 a0_5 a0_6 a0_7 a0_8 a0_9 a0_10).bind fun bt426 => (if ((bt415.1 == bt426.1 && (bt415.2.1 == bt426.2.1 && (bt415.2.2.1 == bt426.2.2.1 && (bt415.2.2.2.1 == bt426.2.2.2.1)))) && ((bt415.2.2.2.2.1 == bt426.2.2.2.2.1 && (bt415.2.2.2.2.2.1 == bt426.2.2.2.2.2.1 && (bt415.2.2.2.2.2.2.1 == bt426.2.2.2.2.2.2.1))) && (bt415.2.2.2.2.2.2.2.1 == bt426.2.2.2.2.2.2.2.1 && (bt415.2.2.2.2.2.2.2.2.1 == bt426.2.2.2.2.2.2.2.2.1 && (bt415.2.2.2.2.2.2.2.2.2.1 == bt426.2.2.2.2.2.2.2.2.2.1 && (bt415.2.2.2.2.2.2.2.2.2.2 == bt426.2.2.2.2.2.2.2.2.2.2)))))) = true then ((path_Path_Heard.f kj67 t332 t333 t334 t335 t336 t337 t338 t339 t340 t341 t342).bind fun bt437 => ((weftlinelaw13_Document.f bt437.1 bt437.2.1 bt437.2.2.1 bt437.2.2.2.1 bt437.2.2.2.2.1 bt437.2.2.2.2.2.1 bt437.2.2.2.2.2.2.1 bt437.2.2.2.2.2.2.2.1 bt437.2.2.2.2.2.2.2.2.1 bt437.2.2.2.2.2.2.2.2.2.1 bt437.2.2.2.2.2.2.2.2.2.2).bind fun bt448 => ((weftlineref13_Heard.f kj67 a0_0 a0_1 a0_2 a0_3 a0_4 a0_5 a0_6 a0_7 a0_8 a0_9 a0_10).bind fun bt459 => (if ((bt448.1 == bt459.1 && (bt448.2.1 == bt459.2.1 && (bt448.2.2.1 == bt459.2.2.1 && (bt448.2.2.2.1 == bt459.2.2.2.1)))) && ((bt448.2.2.2.2.1 == bt459.2.2.2.2.1 && (bt448.2.2.2.2.2.1 == bt459.2.2.2.2.2.1 && (bt448.2.2.2.2.2.2.1 == bt459.2.2.2.2.2.2.1))) && (bt448.2.2.2.2.2.2.2.1 == bt459.2.2.2.2.2.2.2.1 && (bt448.2.2.2.2.2.2.2.2.1 == bt459.2.2.2.2.2.2.2.2.1 && (bt448.2.2.2.2.2.2.2.2.2.1 == bt459.2.2.2.2.2.2.2.2.2.1 && (bt448.2.2.2.2.2.2.2.2.2.2 == bt459.2.2.2.2.2.2.2.2.2.2)))))) = true then ((path_Path_Missed.f kj67 t332 t333 t334 t335 t336 t337 t338 t339 t340 t341 t342).bind fun bt470 => ((weftlinelaw13_Document.f bt470.1 bt470.2.1 bt470.2.2.1 bt470.2.2.2.1 bt470.2.2.2.2.1 bt470.2.2.2.2.2.1 bt470.2.2.2.2.2.2.1 bt470.2.2.2.2.2.2.2.1 bt470.2.2.2.2.2.2.2.2.1 bt470.2.2.2.2.2.2.2.2.2.1 bt470.2.2.2.2.2.2.2.2.2.2).bind fun bt481 => ((weftlineref13_Missed.f kj67 a0_0 a0_1 a0_2 a0_3 a0_4 a0_5 a0_6 a0_7 a0_8 a0_9 a0_10).bind fun bt492 => (some ((bt481.1 == bt492.1 && (bt481.2.1 == bt492.2.1 && (bt481.2.2.1 == bt492.2.2.1 && (bt481.2.2.2.1 == bt492.2.2.2.1)))) && ((bt481.2.2.2.2.1 == bt492.2.2.2.2.1 && (bt481.2.2.2.2.2.1 == bt492.2.2.2.2.2.1 && (bt481.2.2.2.2.2.2.1 == bt492.2.2.2.2.2.2.1))) && (bt481.2.2.2.2.2.2.2.1 == bt492.2.2.2.2.2.2.2.1 && (bt481.2.2.2.2.2.2.2.2.1 == bt492.2.2.2.2.2.2.2.2.1 && (bt481.2.2.2.2.2.2.2.2.2.1 == bt492.2.2.2.2.2.2.2.2.2.1 && (bt481.2.2.2.2.2.2.2.2.2.2 == bt492.2.2.2.2.2.2.2.2.2.2)))))))))) else (some false))))) else (some false))))) else (some false)) = some r := H
                  have A178 := Aside0.mk A1780
                  clear A1780
                  by_cases c179 : (t402 == t403) = true
                  · rw [if_pos c179] at H
                    have c179b0 : (t402 == t403) = true := c179
                    (try (have c179b1 : decide (t402 = t403) = true := by simpa using c179))
                    (try (have c179b2 : (t402 == t403) = true := by simpa using c179))
                    clear c179
                    replace H := Option.bind_eq_some_iff.mp H
                    obtain ⟨⟨t404, t405, t406, t407, t408, t409, t410, t411, t412, t413, t414⟩, A1800, H⟩ := H
                    replace H : ((weftlinelaw13_Document.f t404 t405 t406 t407 t408 t409 t410 t411 t412 t413 t414).bind fun bt415 => ((weftlineref13_Failed.f kj67 a0_0 a0_1 a0_2 a0_3 a0_4 a0_5 a0_6 a0_7 a0_8 a0_9 a0_10).bind fun bt426 => (if ((bt415.1 == bt426.1 && (bt415.2.1 == bt426.2.1 && (bt415.2.2.1 == bt426.2.2.1 && (bt415.2.2.2.1 == bt426.2.2.2.1)))) && ((bt415.2.2.2.2.1 == bt426.2.2.2.2.1 && (bt415.2.2.2.2.2.1 == bt426.2.2.2.2.2.1 && (bt415.2.2.2.2.2.2.1 == bt426.2.2.2.2.2.2.1))) && (bt415.2.2.2.2.2.2.2.1 == bt426.2.2.2.2.2.2.2.1 && (bt415.2.2.2.2.2.2.2.2.1 == bt426.2.2.2.2.2.2.2.2.1 && (bt415.2.2.2.2.2.2.2.2.2.1 == bt426.2.2.2.2.2.2.2.2.2.1 && (bt415.2.2.2.2.2.2.2.2.2.2 == bt426.2.2.2.2.2.2.2.2.2.2)))))) = true then ((path_Path_Heard.f kj67 t332 t333 t334 t335 t336 t337 t338 t339 t340 t341 t342).bind fun bt437 => ((weftlinelaw13_Document.f bt437.1 bt437.2.1 bt437.2.2.1 bt437.2.2.2.1 bt437.2.2.2.2.1 bt437.2.2.2.2.2.1 bt437.2.2.2.2.2.2.1 bt437.2.2.2.2.2.2.2.1 bt437.2.2.2.2.2.2.2.2.1 bt437.2.2.2.2.2.2.2.2.2.1 bt437.2.2.2.2.2.2.2.2.2.2).bind fun bt448 => ((weftlineref13_Heard.f kj67 a0_0 a0_1 a0_2 a0_3 a0_4 a0_5 a0_6 a0_7 a0_8 a0_9 a0_10).bind fun bt459 => (if ((bt448.1 == bt459.1 && (bt448.2.1 == bt459.2.1 && (bt448.2.2.1 == bt459.2.2.1 && (bt448.2.2.2.1 == bt459.2.2.2.1)))) && ((bt448.2.2.2.2.1 == bt459.2.2.2.2.1 && (bt448.2.2.2.2.2.1 == bt459.2.2.2.2.2.1 && (bt448.2.2.2.2.2.2.1 == bt459.2.2.2.2.2.2.1))) && (bt448.2.2.2.2.2.2.2.1 == bt459.2.2.2.2.2.2.2.1 && (bt448.2.2.2.2.2.2.2.2.1 == bt459.2.2.2.2.2.2.2.2.1 && (bt448.2.2.2.2.2.2.2.2.2.1 == bt459.2.2.2.2.2.2.2.2.2.1 && (bt448.2.2.2.2.2.2.2.2.2.2 == bt459.2.2.2.2.2.2.2.2.2.2)))))) = true then ((path_Path_Missed.f kj67 t332 t333 t334 t335 t336 t337 t338 t339 t340 t341 t342).bind fun bt470 => ((weftlinelaw13_Document.f bt470.1 bt470.2.1 bt470.2.2.1 bt470.2.2.2.1 bt470.2.2.2.2.1 bt470.2.2.2.2.2.1 bt470.2.2.2.2.2.2.1 bt470.2.2.2.2.2.2.2.1 bt470.2.2.2.2.2.2.2.2.1 bt470.2.2.2.2.2.2.2.2.2.1 bt470.2.2.2.2.2.2.2.2.2.2).bind fun bt481 => ((weftlineref13_Missed.f kj67 a0_0 a0_1 a0_2 a0_3 a0_4 a0_5 a0_6 a0_7 a0_8 a0_9 a0_10).bind fun bt492 => (some ((bt481.1 == bt492.1 && (bt481.2.1 == bt492.2.1 && (bt481.2.2.1 == bt492.2.2.1 && (bt481.2.2.2.1 == bt492.2.2.2.1)))) && ((bt481.2.2.2.2.1 == bt492.2.2.2.2.1 && (bt481.2.2.2.2.2.1 == bt492.2.2.2.2.2.1 && (bt481.2.2.2.2.2.2.1 == bt492.2.2.2.2.2.2.1))) && (bt481.2.2.2.2.2.2.2.1 == bt492.2.2.2.2.2.2.2.1 && (bt481.2.2.2.2.2.2.2.2.1 == bt492.2.2.2.2.2.2.2.2.1 && (bt481.2.2.2.2.2.2.2.2.2.1 == bt492.2.2.2.2.2.2.2.2.2.1 && (bt481.2.2.2.2.2.2.2.2.2.2 == bt492.2.2.2.2.2.2.2.2.2.2)))))))))) else (some false))))) else (some false)))) = some r := H
                    have A180 := Aside0.mk A1800
                    clear A1800
                    replace H := Option.bind_eq_some_iff.mp H
                    obtain ⟨⟨t415, t416, t417, t418, t419, t420, t421, t422, t423, t424, t425⟩, A1810, H⟩ := H
                    replace H : ((weftlineref13_Failed.f kj67 a0_0 a0_1 a0_2 a0_3 a0_4 a0_5 a0_6 a0_7 a0_8 a0_9 a0_10).bind fun bt426 => (if ((t415 == bt426.1 && (t416 == bt426.2.1 && (t417 == bt426.2.2.1 && (t418 == bt426.2.2.2.1)))) && ((t419 == bt426.2.2.2.2.1 && (t420 == bt426.2.2.2.2.2.1 && (t421 == bt426.2.2.2.2.2.2.1))) && (t422 == bt426.2.2.2.2.2.2.2.1 && (t423 == bt426.2.2.2.2.2.2.2.2.1 && (t424 == bt426.2.2.2.2.2.2.2.2.2.1 && (t425 == bt426.2.2.2.2.2.2.2.2.2.2)))))) = true then ((path_Path_Heard.f kj67 t332 t333 t334 t335 t336 t337 t338 t339 t340 t341 t342).bind fun bt437 => ((weftlinelaw13_Document.f bt437.1 bt437.2.1 bt437.2.2.1 bt437.2.2.2.1 bt437.2.2.2.2.1 bt437.2.2.2.2.2.1 bt437.2.2.2.2.2.2.1 bt437.2.2.2.2.2.2.2.1 bt437.2.2.2.2.2.2.2.2.1 bt437.2.2.2.2.2.2.2.2.2.1 bt437.2.2.2.2.2.2.2.2.2.2).bind fun bt448 => ((weftlineref13_Heard.f kj67 a0_0 a0_1 a0_2 a0_3 a0_4 a0_5 a0_6 a0_7 a0_8 a0_9 a0_10).bind fun bt459 => (if ((bt448.1 == bt459.1 && (bt448.2.1 == bt459.2.1 && (bt448.2.2.1 == bt459.2.2.1 && (bt448.2.2.2.1 == bt459.2.2.2.1)))) && ((bt448.2.2.2.2.1 == bt459.2.2.2.2.1 && (bt448.2.2.2.2.2.1 == bt459.2.2.2.2.2.1 && (bt448.2.2.2.2.2.2.1 == bt459.2.2.2.2.2.2.1))) && (bt448.2.2.2.2.2.2.2.1 == bt459.2.2.2.2.2.2.2.1 && (bt448.2.2.2.2.2.2.2.2.1 == bt459.2.2.2.2.2.2.2.2.1 && (bt448.2.2.2.2.2.2.2.2.2.1 == bt459.2.2.2.2.2.2.2.2.2.1 && (bt448.2.2.2.2.2.2.2.2.2.2 == bt459.2.2.2.2.2.2.2.2.2.2)))))) = true then ((path_Path_Missed.f kj67 t332 t333 t334 t335 t336 t337 t338 t339 t340 t341 t342).bind fun bt470 => ((weftlinelaw13_Document.f bt470.1 bt470.2.1 bt470.2.2.1 bt470.2.2.2.1 bt470.2.2.2.2.1 bt470.2.2.2.2.2.1 bt470.2.2.2.2.2.2.1 bt470.2.2.2.2.2.2.2.1 bt470.2.2.2.2.2.2.2.2.1 bt470.2.2.2.2.2.2.2.2.2.1 bt470.2.2.2.2.2.2.2.2.2.2).bind fun bt481 => ((weftlineref13_Missed.f kj67 a0_0 a0_1 a0_2 a0_3 a0_4 a0_5 a0_6 a0_7 a0_8 a0_9 a0_10).bind fun bt492 => (some ((bt481.1 == bt492.1 && (bt481.2.1 == bt492.2.1 && (bt481.2.2.1 == bt492.2.2.1 && (bt481.2.2.2.1 == bt492.2.2.2.1)))) && ((bt481.2.2.2.2.1 == bt492.2.2.2.2.1 && (bt481.2.2.2.2.2.1 == bt492.2.2.2.2.2.1 && (bt481.2.2.2.2.2.2.1 == bt492.2.2.2.2.2.2.1))) && (bt481.2.2.2.2.2.2.2.1 == bt492.2.2.2.2.2.2.2.1 && (bt481.2.2.2.2.2.2.2.2.1 == bt492.2.2.2.2.2.2.2.2.1 && (bt481.2.2.2.2.2.2.2.2.2.1 == bt492.2.2.2.2.2.2.2.2.2.1 && (bt481.2.2.2.2.2.2.2.2.2.2 == bt492.2.2.2.2.2.2.2.2.2.2)))))))))) else (some false))))) else (some false))) = some r := H
                    have A181 := Aside0.mk A1810
                    clear A1810
                    replace H := Option.bind_eq_some_iff.mp H
                    obtain ⟨⟨t426, t427, t428, t429, t430, t431, t432, t433, t434, t435, t436⟩, A1820, H⟩ := H
                    replace H : (if ((t415 == t426 && (t416 == t427 && (t417 == t428 && (t418 == t429)))) && ((t419 == t430 && (t420 == t431 && (t421 == t432))) && (t422 == t433 && (t423 == t434 && (t424 == t435 && (t425 == t436)))))) = true then ((path_Path_Heard.f kj67 t332 t333 t334 t335 t336 t337 t338 t339 t340 t341 t342).bind fun bt437 => ((weftlinelaw13_Document.f bt437.1 bt437.2.1 bt437.2.2.1 bt437.2.2.2.1 bt437.2.2.2.2.1 bt437.2.2.2.2.2.1 bt437.2.2.2.2.2.2.1 bt437.2.2.2.2.2.2.2.1 bt437.2.2.2.2.2.2.2.2.1 bt437.2.2.2.2.2.2.2.2.2.1 bt437.2.2.2.2.2.2.2.2.2.2).bind fun bt448 => ((weftlineref13_Heard.f kj67 a0_0 a0_1 a0_2 a0_3 a0_4 a0_5 a0_6 a0_7 a0_8 a0_9 a0_10).bind fun bt459 => (if ((bt448.1 == bt459.1 && (bt448.2.1 == bt459.2.1 && (bt448.2.2.1 == bt459.2.2.1 && (bt448.2.2.2.1 == bt459.2.2.2.1)))) && ((bt448.2.2.2.2.1 == bt459.2.2.2.2.1 && (bt448.2.2.2.2.2.1 == bt459.2.2.2.2.2.1 && (bt448.2.2.2.2.2.2.1 == bt459.2.2.2.2.2.2.1))) && (bt448.2.2.2.2.2.2.2.1 == bt459.2.2.2.2.2.2.2.1 && (bt448.2.2.2.2.2.2.2.2.1 == bt459.2.2.2.2.2.2.2.2.1 && (bt448.2.2.2.2.2.2.2.2.2.1 == bt459.2.2.2.2.2.2.2.2.2.1 && (bt448.2.2.2.2.2.2.2.2.2.2 == bt459.2.2.2.2.2.2.2.2.2.2)))))) = true then ((path_Path_Missed.f kj67 t332 t333 t334 t335 t336 t337 t338 t339 t340 t341 t342).bind fun bt470 => ((weftlinelaw13_Document.f bt470.1 bt470.2.1 bt470.2.2.1 bt470.2.2.2.1 bt470.2.2.2.2.1 bt470.2.2.2.2.2.1 bt470.2.2.2.2.2.2.1 bt470.2.2.2.2.2.2.2.1 bt470.2.2.2.2.2.2.2.2.1 bt470.2.2.2.2.2.2.2.2.2.1 bt470.2.2.2.2.2.2.2.2.2.2).bind fun bt481 => ((weftlineref13_Missed.f kj67 a0_0 a0_1 a0_2 a0_3 a0_4 a0_5 a0_6 a0_7 a0_8 a0_9 a0_10).bind fun bt492 => (some ((bt481.1 == bt492.1 && (bt481.2.1 == bt492.2.1 && (bt481.2.2.1 == bt492.2.2.1 && (bt481.2.2.2.1 == bt492.2.2.2.1)))) && ((bt481.2.2.2.2.1 == bt492.2.2.2.2.1 && (bt481.2.2.2.2.2.1 == bt492.2.2.2.2.2.1 && (bt481.2.2.2.2.2.2.1 == bt492.2.2.2.2.2.2.1))) && (bt481.2.2.2.2.2.2.2.1 == bt492.2.2.2.2.2.2.2.1 && (bt481.2.2.2.2.2.2.2.2.1 == bt492.2.2.2.2.2.2.2.2.1 && (bt481.2.2.2.2.2.2.2.2.2.1 == bt492.2.2.2.2.2.2.2.2.2.1 && (bt481.2.2.2.2.2.2.2.2.2.2 == bt492.2.2.2.2.2.2.2.2.2.2)))))))))) else (some false))))) else (some false)) = some r := H
                    have A182 := Aside0.mk A1820
                    clear A1820
                    by_cases c183 : ((t415 == t426 && (t416 == t427 && (t417 == t428 && (t418 == t429)))) && ((t419 == t430 && (t420 == t431 && (t421 == t432))) && (t422 == t433 && (t423 == t434 && (t424 == t435 && (t425 == t436)))))) = true
                    · rw [if_pos c183] at H
                      have c183b0 : ((t415 == t426 && (t416 == t427 && (t417 == t428 && (t418 == t429)))) && ((t419 == t430 && (t420 == t431 && (t421 == t432))) && (t422 == t433 && (t423 == t434 && (t424 == t435 && (t425 == t436)))))) = true := c183
                      clear c183
                      replace H := Option.bind_eq_some_iff.mp H
                      obtain ⟨⟨t437, t438, t439, t440, t441, t442, t443, t444, t445, t446, t447⟩, A1840, H⟩ := H
                      replace H : ((weftlinelaw13_Document.f t437 t438 t439 t440 t441 t442 t443 t444 t445 t446 t447).bind fun bt448 => ((weftlineref13_Heard.f kj67 a0_0 a0_1 a0_2 a0_3 a0_4 a0_5 a0_6 a0_7 a0_8 a0_9 a0_10).bind fun bt459 => (if ((bt448.1 == bt459.1 && (bt448.2.1 == bt459.2.1 && (bt448.2.2.1 == bt459.2.2.1 && (bt448.2.2.2.1 == bt459.2.2.2.1)))) && ((bt448.2.2.2.2.1 == bt459.2.2.2.2.1 && (bt448.2.2.2.2.2.1 == bt459.2.2.2.2.2.1 && (bt448.2.2.2.2.2.2.1 == bt459.2.2.2.2.2.2.1))) && (bt448.2.2.2.2.2.2.2.1 == bt459.2.2.2.2.2.2.2.1 && (bt448.2.2.2.2.2.2.2.2.1 == bt459.2.2.2.2.2.2.2.2.1 && (bt448.2.2.2.2.2.2.2.2.2.1 == bt459.2.2.2.2.2.2.2.2.2.1 && (bt448.2.2.2.2.2.2.2.2.2.2 == bt459.2.2.2.2.2.2.2.2.2.2)))))) = true then ((path_Path_Missed.f kj67 t332 t333 t334 t335 t336 t337 t338 t339 t340 t341 t342).bind fun bt470 => ((weftlinelaw13_Document.f bt470.1 bt470.2.1 bt470.2.2.1 bt470.2.2.2.1 bt470.2.2.2.2.1 bt470.2.2.2.2.2.1 bt470.2.2.2.2.2.2.1 bt470.2.2.2.2.2.2.2.1 bt470.2.2.2.2.2.2.2.2.1 bt470.2.2.2.2.2.2.2.2.2.1 bt470.2.2.2.2.2.2.2.2.2.2).bind fun bt481 => ((weftlineref13_Missed.f kj67 a0_0 a0_1 a0_2 a0_3 a0_4 a0_5 a0_6 a0_7 a0_8 a0_9 a0_10).bind fun bt492 => (some ((bt481.1 == bt492.1 && (bt481.2.1 == bt492.2.1 && (bt481.2.2.1 == bt492.2.2.1 && (bt481.2.2.2.1 == bt492.2.2.2.1)))) && ((bt481.2.2.2.2.1 == bt492.2.2.2.2.1 && (bt481.2.2.2.2.2.1 == bt492.2.2.2.2.2.1 && (bt481.2.2.2.2.2.2.1 == bt492.2.2.2.2.2.2.1))) && (bt481.2.2.2.2.2.2.2.1 == bt492.2.2.2.2.2.2.2.1 && (bt481.2.2.2.2.2.2.2.2.1 == bt492.2.2.2.2.2.2.2.2.1 && (bt481.2.2.2.2.2.2.2.2.2.1 == bt492.2.2.2.2.2.2.2.2.2.1 && (bt481.2.2.2.2.2.2.2.2.2.2 == bt492.2.2.2.2.2.2.2.2.2.2)))))))))) else (some false)))) = some r := H
                      have A184 := Aside0.mk A1840
                      clear A1840
                      replace H := Option.bind_eq_some_iff.mp H
                      obtain ⟨⟨t448, t449, t450, t451, t452, t453, t454, t455, t456, t457, t458⟩, A1850, H⟩ := H
                      replace H : ((weftlineref13_Heard.f kj67 a0_0 a0_1 a0_2 a0_3 a0_4 a0_5 a0_6 a0_7 a0_8 a0_9 a0_10).bind fun bt459 => (if ((t448 == bt459.1 && (t449 == bt459.2.1 && (t450 == bt459.2.2.1 && (t451 == bt459.2.2.2.1)))) && ((t452 == bt459.2.2.2.2.1 && (t453 == bt459.2.2.2.2.2.1 && (t454 == bt459.2.2.2.2.2.2.1))) && (t455 == bt459.2.2.2.2.2.2.2.1 && (t456 == bt459.2.2.2.2.2.2.2.2.1 && (t457 == bt459.2.2.2.2.2.2.2.2.2.1 && (t458 == bt459.2.2.2.2.2.2.2.2.2.2)))))) = true then ((path_Path_Missed.f kj67 t332 t333 t334 t335 t336 t337 t338 t339 t340 t341 t342).bind fun bt470 => ((weftlinelaw13_Document.f bt470.1 bt470.2.1 bt470.2.2.1 bt470.2.2.2.1 bt470.2.2.2.2.1 bt470.2.2.2.2.2.1 bt470.2.2.2.2.2.2.1 bt470.2.2.2.2.2.2.2.1 bt470.2.2.2.2.2.2.2.2.1 bt470.2.2.2.2.2.2.2.2.2.1 bt470.2.2.2.2.2.2.2.2.2.2).bind fun bt481 => ((weftlineref13_Missed.f kj67 a0_0 a0_1 a0_2 a0_3 a0_4 a0_5 a0_6 a0_7 a0_8 a0_9 a0_10).bind fun bt492 => (some ((bt481.1 == bt492.1 && (bt481.2.1 == bt492.2.1 && (bt481.2.2.1 == bt492.2.2.1 && (bt481.2.2.2.1 == bt492.2.2.2.1)))) && ((bt481.2.2.2.2.1 == bt492.2.2.2.2.1 && (bt481.2.2.2.2.2.1 == bt492.2.2.2.2.2.1 && (bt481.2.2.2.2.2.2.1 == bt492.2.2.2.2.2.2.1))) && (bt481.2.2.2.2.2.2.2.1 == bt492.2.2.2.2.2.2.2.1 && (bt481.2.2.2.2.2.2.2.2.1 == bt492.2.2.2.2.2.2.2.2.1 && (bt481.2.2.2.2.2.2.2.2.2.1 == bt492.2.2.2.2.2.2.2.2.2.1 && (bt481.2.2.2.2.2.2.2.2.2.2 == bt492.2.2.2.2.2.2.2.2.2.2)))))))))) else (some false))) = some r := H
                      have A185 := Aside0.mk A1850
                      clear A1850
                      replace H := Option.bind_eq_some_iff.mp H
                      obtain ⟨⟨t459, t460, t461, t462, t463, t464, t465, t466, t467, t468, t469⟩, A1860, H⟩ := H
                      replace H : (if ((t448 == t459 && (t449 == t460 && (t450 == t461 && (t451 == t462)))) && ((t452 == t463 && (t453 == t464 && (t454 == t465))) && (t455 == t466 && (t456 == t467 && (t457 == t468 && (t458 == t469)))))) = true then ((path_Path_Missed.f kj67 t332 t333 t334 t335 t336 t337 t338 t339 t340 t341 t342).bind fun bt470 => ((weftlinelaw13_Document.f bt470.1 bt470.2.1 bt470.2.2.1 bt470.2.2.2.1 bt470.2.2.2.2.1 bt470.2.2.2.2.2.1 bt470.2.2.2.2.2.2.1 bt470.2.2.2.2.2.2.2.1 bt470.2.2.2.2.2.2.2.2.1 bt470.2.2.2.2.2.2.2.2.2.1 bt470.2.2.2.2.2.2.2.2.2.2).bind fun bt481 => ((weftlineref13_Missed.f kj67 a0_0 a0_1 a0_2 a0_3 a0_4 a0_5 a0_6 a0_7 a0_8 a0_9 a0_10).bind fun bt492 => (some ((bt481.1 == bt492.1 && (bt481.2.1 == bt492.2.1 && (bt481.2.2.1 == bt492.2.2.1 && (bt481.2.2.2.1 == bt492.2.2.2.1)))) && ((bt481.2.2.2.2.1 == bt492.2.2.2.2.1 && (bt481.2.2.2.2.2.1 == bt492.2.2.2.2.2.1 && (bt481.2.2.2.2.2.2.1 == bt492.2.2.2.2.2.2.1))) && (bt481.2.2.2.2.2.2.2.1 == bt492.2.2.2.2.2.2.2.1 && (bt481.2.2.2.2.2.2.2.2.1 == bt492.2.2.2.2.2.2.2.2.1 && (bt481.2.2.2.2.2.2.2.2.2.1 == bt492.2.2.2.2.2.2.2.2.2.1 && (bt481.2.2.2.2.2.2.2.2.2.2 == bt492.2.2.2.2.2.2.2.2.2.2)))))))))) else (some false)) = some r := H
                      have A186 := Aside0.mk A1860
                      clear A1860
                      by_cases c187 : ((t448 == t459 && (t449 == t460 && (t450 == t461 && (t451 == t462)))) && ((t452 == t463 && (t453 == t464 && (t454 == t465))) && (t455 == t466 && (t456 == t467 && (t457 == t468 && (t458 == t469)))))) = true
                      · rw [if_pos c187] at H
                        have c187b0 : ((t448 == t459 && (t449 == t460 && (t450 == t461 && (t451 == t462)))) && ((t452 == t463 && (t453 == t464 && (t454 == t465))) && (t455 == t466 && (t456 == t467 && (t457 == t468 && (t458 == t469)))))) = true := c187
                        clear c187
                        replace H := Option.bind_eq_some_iff.mp H
                        obtain ⟨⟨t470, t471, t472, t473, t474, t475, t476, t477, t478, t479, t480⟩, A1880, H⟩ := H
                        replace H : ((weftlinelaw13_Document.f t470 t471 t472 t473 t474 t475 t476 t477 t478 t479 t480).bind fun bt481 => ((weftlineref13_Missed.f kj67 a0_0 a0_1 a0_2 a0_3 a0_4 a0_5 a0_6 a0_7 a0_8 a0_9 a0_10).bind fun bt492 => (some ((bt481.1 == bt492.1 && (bt481.2.1 == bt492.2.1 && (bt481.2.2.1 == bt492.2.2.1 && (bt481.2.2.2.1 == bt492.2.2.2.1)))) && ((bt481.2.2.2.2.1 == bt492.2.2.2.2.1 && (bt481.2.2.2.2.2.1 == bt492.2.2.2.2.2.1 && (bt481.2.2.2.2.2.2.1 == bt492.2.2.2.2.2.2.1))) && (bt481.2.2.2.2.2.2.2.1 == bt492.2.2.2.2.2.2.2.1 && (bt481.2.2.2.2.2.2.2.2.1 == bt492.2.2.2.2.2.2.2.2.1 && (bt481.2.2.2.2.2.2.2.2.2.1 == bt492.2.2.2.2.2.2.2.2.2.1 && (bt481.2.2.2.2.2.2.2.2.2.2 == bt492.2.2.2.2.2.2.2.2.2.2))))))))) = some r := H
                        have A188 := Aside0.mk A1880
                        clear A1880
                        replace H := Option.bind_eq_some_iff.mp H
                        obtain ⟨⟨t481, t482, t483, t484, t485, t486, t487, t488, t489, t490, t491⟩, A1890, H⟩ := H
                        replace H : ((weftlineref13_Missed.f kj67 a0_0 a0_1 a0_2 a0_3 a0_4 a0_5 a0_6 a0_7 a0_8 a0_9 a0_10).bind fun bt492 => (some ((t481 == bt492.1 && (t482 == bt492.2.1 && (t483 == bt492.2.2.1 && (t484 == bt492.2.2.2.1)))) && ((t485 == bt492.2.2.2.2.1 && (t486 == bt492.2.2.2.2.2.1 && (t487 == bt492.2.2.2.2.2.2.1))) && (t488 == bt492.2.2.2.2.2.2.2.1 && (t489 == bt492.2.2.2.2.2.2.2.2.1 && (t490 == bt492.2.2.2.2.2.2.2.2.2.1 && (t491 == bt492.2.2.2.2.2.2.2.2.2.2)))))))) = some r := H
                        have A189 := Aside0.mk A1890
                        clear A1890
                        replace H := Option.bind_eq_some_iff.mp H
                        obtain ⟨⟨t492, t493, t494, t495, t496, t497, t498, t499, t500, t501, t502⟩, A1900, H⟩ := H
                        replace H : (some ((t481 == t492 && (t482 == t493 && (t483 == t494 && (t484 == t495)))) && ((t485 == t496 && (t486 == t497 && (t487 == t498))) && (t488 == t499 && (t489 == t500 && (t490 == t501 && (t491 == t502))))))) = some r := H
                        have A190 := Aside0.mk A1900
                        clear A1900
                        obtain rfl := Option.some.inj H
                        try go_wp2
                        have n0_ := A0 (blk_drew BK330.out)
                        have n1_ := A0 (blk_drew BK343.out)
                        have n2_ := A0 (blk_drew BK356.out)
                        have n3_ := A0 (blk_drew BK394.out)
                        have n4_ := A0 (below_drew1 HB.out)
                        clear BK330 BK343 BK356 BK394 HB
                        have BK330 := n0_
                        have BK343 := n1_
                        have BK356 := n2_
                        have BK394 := n3_
                        have HB := n4_
                        clear n0_ n1_ n2_ n3_ n4_
                        refine start_ (n := 37) (S := fun w' => w'.cell? ⟨gb343, 0, none⟩ = some (.int .i64 t332) ∧ w'.cell? ⟨gb343, 1, none⟩ = some (.int .i64 t333) ∧ w'.cell? ⟨gb343, 2, none⟩ = some (.int .i64 t334) ∧ w'.cell? ⟨gb343, 3, none⟩ = some (.bool t335) ∧ w'.cell? ⟨gb343, 4, none⟩ = some (.int .i64 t336) ∧ w'.cell? ⟨gb343, 5, none⟩ = some (.int .i64 t337) ∧ w'.cell? ⟨gb343, 6, none⟩ = some (.int .i64 t338) ∧ w'.cell? ⟨gb343, 7, none⟩ = some (.int .i64 t339) ∧ w'.cell? ⟨gb343, 8, none⟩ = some (.int .i64 t340) ∧ w'.cell? ⟨gb343, 9, none⟩ = some (.int .u32 t341) ∧ w'.cell? ⟨gb343, 10, none⟩ = some (.int .i64 t342) ∧ w'.cell? ⟨gb330, 0, none⟩ = some (.int .i64 a0_0) ∧ w'.cell? ⟨gb330, 1, none⟩ = some (.int .i64 a0_1) ∧ w'.cell? ⟨gb330, 2, none⟩ = some (.int .i64 a0_2) ∧ w'.cell? ⟨gb330, 3, none⟩ = some (.bool a0_3) ∧ w'.cell? ⟨gb330, 4, none⟩ = some (.int .i64 a0_4) ∧ w'.cell? ⟨gb330, 5, none⟩ = some (.int .i64 a0_5) ∧ w'.cell? ⟨gb330, 6, none⟩ = some (.int .i64 a0_6) ∧ w'.cell? ⟨gb330, 7, none⟩ = some (.int .i64 a0_7) ∧ w'.cell? ⟨gb330, 8, none⟩ = some (.int .i64 a0_8) ∧ w'.cell? ⟨gb330, 9, none⟩ = some (.int .u32 a0_9) ∧ w'.cell? ⟨gb330, 10, none⟩ = some (.int .i64 a0_10)) (ds := []) #[false, false, false, false, false, false, false, false, false, false, false, false, false, false, false, false, false, false, false, false, false, false, false, false, false, false, false, false, false, false, false, false, false, false, false, false, false] (by kernel_rfl) rfl rfl ⟨(blk_cell BK343.out 0).trans rfl, (blk_cell BK343.out 1).trans rfl, (blk_cell BK343.out 2).trans rfl, (blk_cell BK343.out 3).trans rfl, (blk_cell BK343.out 4).trans rfl, (blk_cell BK343.out 5).trans rfl, (blk_cell BK343.out 6).trans rfl, (blk_cell BK343.out 7).trans rfl, (blk_cell BK343.out 8).trans rfl, (blk_cell BK343.out 9).trans rfl, (blk_cell BK343.out 10).trans rfl, (blk_cell BK330.out 0).trans rfl, (blk_cell BK330.out 1).trans rfl, (blk_cell BK330.out 2).trans rfl, (blk_cell BK330.out 3).trans rfl, (blk_cell BK330.out 4).trans rfl, (blk_cell BK330.out 5).trans rfl, (blk_cell BK330.out 6).trans rfl, (blk_cell BK330.out 7).trans rfl, (blk_cell BK330.out 8).trans rfl, (blk_cell BK330.out 9).trans rfl, (blk_cell BK330.out 10).trans rfl⟩ (fun hHeld => ?_); refine with_tabW weftlinelaw13_PathFails.tab17 weftlinelaw13_PathFails.bits17 (fun HT_ HW_ => ?_)
                        generalize wc.drew = w191 at BK330 BK343 BK356 BK394 HB hHeld ⊢
                        refine take_ (i := 0) (N := some 98) (v := ?_) (a' := ?_) #[true, false, false, false, false, false, false, false, false, false, false, false, false, false, false, false, false, false, false, false, false, false, false, false, false, false, false, false, false, false, false, false, false, false, false, false, false] rfl rfl (take_ofW HT_.out HW_.out (by kernel_rfl)) (fun _ _ _ h => h) (Or.inl ⟨by rfl, ?_⟩) hHeld ?_ ?_
                        rotate_left
                        · rintro w' ⟨s0, s1, s2, s3, s4, s5, s6, s7, s8, s9, s10, s11, s12, s13, s14, s15, s16, s17, s18, s19, s20, s21⟩
                          go_simp
                          with_reducible rfl
                        rotate_left
                        · simp only [Act.put, List.setIfInBounds_toArray, List.set_cons_zero, List.set_cons_succ, i64_w, i32_w]
                          rfl
                        refine take_ (i := 2) (N := some 100) (v := ?_) (a' := ?_) #[true, false, true, false, false, false, false, false, false, false, false, false, false, false, false, false, false, false, false, false, false, false, false, false, false, false, false, false, false, false, false, false, false, false, false, false, false] rfl rfl (take_ofW HT_.out HW_.out (by kernel_rfl)) (fun _ _ _ h => h) (Or.inl ⟨by rfl, ?_⟩) hHeld ?_ ?_
                        rotate_left
                        · rintro w' ⟨s0, s1, s2, s3, s4, s5, s6, s7, s8, s9, s10, s11, s12, s13, s14, s15, s16, s17, s18, s19, s20, s21⟩
                          go_simp
                          with_reducible rfl
                        rotate_left
                        · simp only [Act.put, List.setIfInBounds_toArray, List.set_cons_zero, List.set_cons_succ, i64_w, i32_w]
                          rfl
                        refine one_ (i := 1) (N := some 99) #[true, true, true, false, false, false, false, false, false, false, false, false, false, false, false, false, false, false, false, false, false, false, false, false, false, false, false, false, false, false, false, false, false, false, false, false, false] rfl rfl (one_of HT_.out (by kernel_rfl)) (by decide) (fun K hK => ?_)
                        refine goes_ Try.func20 (by kernel_rfl) rfl #[.agg #[.int .i64 t332, .int .i64 t333, .int .i64 t334, .bool t335, .int .i64 t336, .int .i64 t337, .int .i64 t338, .int .i64 t339, .int .i64 t340, .int .u32 t341, .int .i64 t342]] (by rfl) rfl rfl (by (try simp only [List.map_toArray, List.map_cons, List.map_nil]); first | done | rfl | (simp only [List.length_drop, List.length_take]; rfl)) ?_
                        with_reducible refine (path_Good.calls kj67 t332 t333 t334 t335 t336 t337 t338 t339 t340 t341 t342 t400 _ A174.out).mono ?_
                        rintro e w192 ⟨rfl, hb⟩
                        refine ⟨_, rfl, ?_⟩
                        have n0_ := A0 (blk_below (by (with_reducible repeat (first | refine q1 ?_ _ | refine q2 ?_ | refine q3 ?_ _)); exact BK330.out) hb)
                        have n1_ := A0 (blk_below (by (with_reducible repeat (first | refine q1 ?_ _ | refine q2 ?_ | refine q3 ?_ _)); exact BK343.out) hb)
                        have n2_ := A0 (blk_below (by (with_reducible repeat (first | refine q1 ?_ _ | refine q2 ?_ | refine q3 ?_ _)); exact BK356.out) hb)
                        have n3_ := A0 (blk_below (by (with_reducible repeat (first | refine q1 ?_ _ | refine q2 ?_ | refine q3 ?_ _)); exact BK394.out) hb)
                        have n4_ := A0 (below_step (by repeat (first | (with_reducible first | exact HB.out | apply b1 | apply b2 | apply b3 | refine below_set ?_ GE330.out | refine below_set ?_ GE343.out | refine below_set ?_ GE356.out | refine below_set ?_ GE394.out) | exact HB.out)) hb)
                        clear BK330 BK343 BK356 BK394 HB
                        have BK330 := n0_
                        have BK343 := n1_
                        have BK356 := n2_
                        have BK394 := n3_
                        have HB := n4_
                        clear n0_ n1_ n2_ n3_ n4_
                        (try clear hb); (try clear hb2); (try clear hk); (try clear hi)
                        refine hK.out _ _ ⟨(blk_cell BK343.out 0).trans rfl, (blk_cell BK343.out 1).trans rfl, (blk_cell BK343.out 2).trans rfl, (blk_cell BK343.out 3).trans rfl, (blk_cell BK343.out 4).trans rfl, (blk_cell BK343.out 5).trans rfl, (blk_cell BK343.out 6).trans rfl, (blk_cell BK343.out 7).trans rfl, (blk_cell BK343.out 8).trans rfl, (blk_cell BK343.out 9).trans rfl, (blk_cell BK343.out 10).trans rfl, (blk_cell BK330.out 0).trans rfl, (blk_cell BK330.out 1).trans rfl, (blk_cell BK330.out 2).trans rfl, (blk_cell BK330.out 3).trans rfl, (blk_cell BK330.out 4).trans rfl, (blk_cell BK330.out 5).trans rfl, (blk_cell BK330.out 6).trans rfl, (blk_cell BK330.out 7).trans rfl, (blk_cell BK330.out 8).trans rfl, (blk_cell BK330.out 9).trans rfl, (blk_cell BK330.out 10).trans rfl⟩ (fun hHeld => ?_)
                        clear hK K
                        refine norm_ (a' := ?_) ?_ ?_
                        rotate_left
                        · show Act.put _ (some 99) _ = _
                          simp only [Act.put, List.setIfInBounds_toArray, List.set_cons_zero, List.set_cons_succ, i64_w, i32_w]
                          rfl
                        refine one_ (i := 3) (N := some 101) #[true, true, true, true, false, false, false, false, false, false, false, false, false, false, false, false, false, false, false, false, false, false, false, false, false, false, false, false, false, false, false, false, false, false, false, false, false] rfl rfl (one_of HT_.out (by kernel_rfl)) (by decide) (fun K hK => ?_)
                        refine goes_ Try.func19 (by kernel_rfl) rfl #[.agg #[.int .i64 a0_0, .int .i64 a0_1, .int .i64 a0_2, .bool a0_3, .int .i64 a0_4, .int .i64 a0_5, .int .i64 a0_6, .int .i64 a0_7, .int .i64 a0_8, .int .u32 a0_9, .int .i64 a0_10]] (by rfl) rfl rfl (by (try simp only [List.map_toArray, List.map_cons, List.map_nil]); first | done | rfl | (simp only [List.length_drop, List.length_take]; rfl)) ?_
                        with_reducible refine (weftlineref13_Good.calls kj67 a0_0 a0_1 a0_2 a0_3 a0_4 a0_5 a0_6 a0_7 a0_8 a0_9 a0_10 t401 _ A175.out).mono ?_
                        rintro e w193 ⟨rfl, hb⟩
                        refine ⟨_, rfl, ?_⟩
                        have n0_ := A0 (blk_below (by (with_reducible repeat (first | refine q1 ?_ _ | refine q2 ?_ | refine q3 ?_ _)); exact BK330.out) hb)
                        have n1_ := A0 (blk_below (by (with_reducible repeat (first | refine q1 ?_ _ | refine q2 ?_ | refine q3 ?_ _)); exact BK343.out) hb)
                        have n2_ := A0 (blk_below (by (with_reducible repeat (first | refine q1 ?_ _ | refine q2 ?_ | refine q3 ?_ _)); exact BK356.out) hb)
                        have n3_ := A0 (blk_below (by (with_reducible repeat (first | refine q1 ?_ _ | refine q2 ?_ | refine q3 ?_ _)); exact BK394.out) hb)
                        have n4_ := A0 (below_step (by repeat (first | (with_reducible first | exact HB.out | apply b1 | apply b2 | apply b3 | refine below_set ?_ GE330.out | refine below_set ?_ GE343.out | refine below_set ?_ GE356.out | refine below_set ?_ GE394.out) | exact HB.out)) hb)
                        clear BK330 BK343 BK356 BK394 HB
                        have BK330 := n0_
                        have BK343 := n1_
                        have BK356 := n2_
                        have BK394 := n3_
                        have HB := n4_
                        clear n0_ n1_ n2_ n3_ n4_
                        (try clear hb); (try clear hb2); (try clear hk); (try clear hi)
                        refine hK.out _ _ ⟨(blk_cell BK343.out 0).trans rfl, (blk_cell BK343.out 1).trans rfl, (blk_cell BK343.out 2).trans rfl, (blk_cell BK343.out 3).trans rfl, (blk_cell BK343.out 4).trans rfl, (blk_cell BK343.out 5).trans rfl, (blk_cell BK343.out 6).trans rfl, (blk_cell BK343.out 7).trans rfl, (blk_cell BK343.out 8).trans rfl, (blk_cell BK343.out 9).trans rfl, (blk_cell BK343.out 10).trans rfl, (blk_cell BK330.out 0).trans rfl, (blk_cell BK330.out 1).trans rfl, (blk_cell BK330.out 2).trans rfl, (blk_cell BK330.out 3).trans rfl, (blk_cell BK330.out 4).trans rfl, (blk_cell BK330.out 5).trans rfl, (blk_cell BK330.out 6).trans rfl, (blk_cell BK330.out 7).trans rfl, (blk_cell BK330.out 8).trans rfl, (blk_cell BK330.out 9).trans rfl, (blk_cell BK330.out 10).trans rfl⟩ (fun hHeld => ?_)
                        clear hK K
                        refine norm_ (a' := ?_) ?_ ?_
                        rotate_left
                        · show Act.put _ (some 101) _ = _
                          simp only [Act.put, List.setIfInBounds_toArray, List.set_cons_zero, List.set_cons_succ, i64_w, i32_w]
                          rfl
                        refine pure_ (i := 4) (N := some 102) (v := ?_) (a' := ?_) #[true, true, true, true, true, false, false, false, false, false, false, false, false, false, false, false, false, false, false, false, false, false, false, false, false, false, false, false, false, false, false, false, false, false, false, false, false] rfl rfl (any_of HT_.out (by kernel_rfl)) (fun _ _ _ h => h) (Or.inl ⟨by rfl, ?_⟩) ?_ ?_
                        rotate_left
                        · intro w'
                          go_simp
                          with_reducible rfl
                        rotate_left
                        · simp only [Act.put, List.setIfInBounds_toArray, List.set_cons_zero, List.set_cons_succ, i64_w, i32_w]
                          rfl
                        refine pure_ (i := 5) (N := some 103) (v := ?_) (a' := ?_) #[true, true, true, true, true, true, false, false, false, false, false, false, false, false, false, false, false, false, false, false, false, false, false, false, false, false, false, false, false, false, false, false, false, false, false, false, false] rfl rfl (any_of HT_.out (by kernel_rfl)) (fun _ _ _ h => h) (Or.inl ⟨by rfl, ?_⟩) ?_ ?_
                        rotate_left
                        · intro w'
                          go_simp
                          with_reducible rfl
                        rotate_left
                        · simp only [Act.put, List.setIfInBounds_toArray, List.set_cons_zero, List.set_cons_succ, i64_w, i32_w]
                          rfl
                        refine take_ (i := 6) (N := some 104) (v := ?_) (a' := ?_) #[true, true, true, true, true, true, true, false, false, false, false, false, false, false, false, false, false, false, false, false, false, false, false, false, false, false, false, false, false, false, false, false, false, false, false, false, false] rfl rfl (take_ofW HT_.out HW_.out (by kernel_rfl)) (fun _ _ _ h => h) (Or.inl ⟨by rfl, ?_⟩) hHeld ?_ ?_
                        rotate_left
                        · rintro w' ⟨s0, s1, s2, s3, s4, s5, s6, s7, s8, s9, s10, s11, s12, s13, s14, s15, s16, s17, s18, s19, s20, s21⟩
                          go_simp
                          with_reducible rfl
                        rotate_left
                        · simp only [Act.put, List.setIfInBounds_toArray, List.set_cons_zero, List.set_cons_succ, i64_w, i32_w]
                          rfl
                        refine take_ (i := 8) (N := some 106) (v := ?_) (a' := ?_) #[true, true, true, true, true, true, true, false, true, false, false, false, false, false, false, false, false, false, false, false, false, false, false, false, false, false, false, false, false, false, false, false, false, false, false, false, false] rfl rfl (take_ofW HT_.out HW_.out (by kernel_rfl)) (fun _ _ _ h => h) (Or.inl ⟨by rfl, ?_⟩) hHeld ?_ ?_
                        rotate_left
                        · rintro w' ⟨s0, s1, s2, s3, s4, s5, s6, s7, s8, s9, s10, s11, s12, s13, s14, s15, s16, s17, s18, s19, s20, s21⟩
                          go_simp
                          with_reducible rfl
                        rotate_left
                        · simp only [Act.put, List.setIfInBounds_toArray, List.set_cons_zero, List.set_cons_succ, i64_w, i32_w]
                          rfl
                        refine one_ (i := 7) (N := some 105) #[true, true, true, true, true, true, true, true, true, false, false, false, false, false, false, false, false, false, false, false, false, false, false, false, false, false, false, false, false, false, false, false, false, false, false, false, false] rfl rfl (one_of HT_.out (by kernel_rfl)) (by decide) (fun K hK => ?_)
                        refine goes_ Try.func21 (by kernel_rfl) rfl #[.agg #[.int .i64 t332, .int .i64 t333, .int .i64 t334, .bool t335, .int .i64 t336, .int .i64 t337, .int .i64 t338, .int .i64 t339, .int .i64 t340, .int .u32 t341, .int .i64 t342]] (by rfl) rfl rfl (by (try simp only [List.map_toArray, List.map_cons, List.map_nil]); first | done | rfl | (simp only [List.length_drop, List.length_take]; rfl)) ?_
                        with_reducible refine (path_Path_Active.calls kj67 t332 t333 t334 t335 t336 t337 t338 t339 t340 t341 t342 t402 _ A177.out).mono ?_
                        rintro e w194 ⟨rfl, hb⟩
                        refine ⟨_, rfl, ?_⟩
                        have n0_ := A0 (blk_below (by (with_reducible repeat (first | refine q1 ?_ _ | refine q2 ?_ | refine q3 ?_ _)); exact BK330.out) hb)
                        have n1_ := A0 (blk_below (by (with_reducible repeat (first | refine q1 ?_ _ | refine q2 ?_ | refine q3 ?_ _)); exact BK343.out) hb)
                        have n2_ := A0 (blk_below (by (with_reducible repeat (first | refine q1 ?_ _ | refine q2 ?_ | refine q3 ?_ _)); exact BK356.out) hb)
                        have n3_ := A0 (blk_below (by (with_reducible repeat (first | refine q1 ?_ _ | refine q2 ?_ | refine q3 ?_ _)); exact BK394.out) hb)
                        have n4_ := A0 (below_step (by repeat (first | (with_reducible first | exact HB.out | apply b1 | apply b2 | apply b3 | refine below_set ?_ GE330.out | refine below_set ?_ GE343.out | refine below_set ?_ GE356.out | refine below_set ?_ GE394.out) | exact HB.out)) hb)
                        clear BK330 BK343 BK356 BK394 HB
                        have BK330 := n0_
                        have BK343 := n1_
                        have BK356 := n2_
                        have BK394 := n3_
                        have HB := n4_
                        clear n0_ n1_ n2_ n3_ n4_
                        (try clear hb); (try clear hb2); (try clear hk); (try clear hi)
                        refine hK.out _ _ ⟨(blk_cell BK343.out 0).trans rfl, (blk_cell BK343.out 1).trans rfl, (blk_cell BK343.out 2).trans rfl, (blk_cell BK343.out 3).trans rfl, (blk_cell BK343.out 4).trans rfl, (blk_cell BK343.out 5).trans rfl, (blk_cell BK343.out 6).trans rfl, (blk_cell BK343.out 7).trans rfl, (blk_cell BK343.out 8).trans rfl, (blk_cell BK343.out 9).trans rfl, (blk_cell BK343.out 10).trans rfl, (blk_cell BK330.out 0).trans rfl, (blk_cell BK330.out 1).trans rfl, (blk_cell BK330.out 2).trans rfl, (blk_cell BK330.out 3).trans rfl, (blk_cell BK330.out 4).trans rfl, (blk_cell BK330.out 5).trans rfl, (blk_cell BK330.out 6).trans rfl, (blk_cell BK330.out 7).trans rfl, (blk_cell BK330.out 8).trans rfl, (blk_cell BK330.out 9).trans rfl, (blk_cell BK330.out 10).trans rfl⟩ (fun hHeld => ?_)
                        clear hK K
                        refine norm_ (a' := ?_) ?_ ?_
                        rotate_left
                        · show Act.put _ (some 105) _ = _
                          simp only [Act.put, List.setIfInBounds_toArray, List.set_cons_zero, List.set_cons_succ, i64_w, i32_w]
                          rfl
                        refine one_ (i := 9) (N := some 107) #[true, true, true, true, true, true, true, true, true, true, false, false, false, false, false, false, false, false, false, false, false, false, false, false, false, false, false, false, false, false, false, false, false, false, false, false, false] rfl rfl (one_of HT_.out (by kernel_rfl)) (by decide) (fun K hK => ?_)
                        refine goes_ Try.func22 (by kernel_rfl) rfl #[.agg #[.int .i64 a0_0, .int .i64 a0_1, .int .i64 a0_2, .bool a0_3, .int .i64 a0_4, .int .i64 a0_5, .int .i64 a0_6, .int .i64 a0_7, .int .i64 a0_8, .int .u32 a0_9, .int .i64 a0_10]] (by rfl) rfl rfl (by (try simp only [List.map_toArray, List.map_cons, List.map_nil]); first | done | rfl | (simp only [List.length_drop, List.length_take]; rfl)) ?_
                        with_reducible refine (weftlineref13_Active.calls kj67 a0_0 a0_1 a0_2 a0_3 a0_4 a0_5 a0_6 a0_7 a0_8 a0_9 a0_10 t403 _ A178.out).mono ?_
                        rintro e w195 ⟨rfl, hb⟩
                        refine ⟨_, rfl, ?_⟩
                        have n0_ := A0 (blk_below (by (with_reducible repeat (first | refine q1 ?_ _ | refine q2 ?_ | refine q3 ?_ _)); exact BK330.out) hb)
                        have n1_ := A0 (blk_below (by (with_reducible repeat (first | refine q1 ?_ _ | refine q2 ?_ | refine q3 ?_ _)); exact BK343.out) hb)
                        have n2_ := A0 (blk_below (by (with_reducible repeat (first | refine q1 ?_ _ | refine q2 ?_ | refine q3 ?_ _)); exact BK356.out) hb)
                        have n3_ := A0 (blk_below (by (with_reducible repeat (first | refine q1 ?_ _ | refine q2 ?_ | refine q3 ?_ _)); exact BK394.out) hb)
                        have n4_ := A0 (below_step (by repeat (first | (with_reducible first | exact HB.out | apply b1 | apply b2 | apply b3 | refine below_set ?_ GE330.out | refine below_set ?_ GE343.out | refine below_set ?_ GE356.out | refine below_set ?_ GE394.out) | exact HB.out)) hb)
                        clear BK330 BK343 BK356 BK394 HB
                        have BK330 := n0_
                        have BK343 := n1_
                        have BK356 := n2_
                        have BK394 := n3_
                        have HB := n4_
                        clear n0_ n1_ n2_ n3_ n4_
                        (try clear hb); (try clear hb2); (try clear hk); (try clear hi)
                        refine hK.out _ _ ⟨(blk_cell BK343.out 0).trans rfl, (blk_cell BK343.out 1).trans rfl, (blk_cell BK343.out 2).trans rfl, (blk_cell BK343.out 3).trans rfl, (blk_cell BK343.out 4).trans rfl, (blk_cell BK343.out 5).trans rfl, (blk_cell BK343.out 6).trans rfl, (blk_cell BK343.out 7).trans rfl, (blk_cell BK343.out 8).trans rfl, (blk_cell BK343.out 9).trans rfl, (blk_cell BK343.out 10).trans rfl, (blk_cell BK330.out 0).trans rfl, (blk_cell BK330.out 1).trans rfl, (blk_cell BK330.out 2).trans rfl, (blk_cell BK330.out 3).trans rfl, (blk_cell BK330.out 4).trans rfl, (blk_cell BK330.out 5).trans rfl, (blk_cell BK330.out 6).trans rfl, (blk_cell BK330.out 7).trans rfl, (blk_cell BK330.out 8).trans rfl, (blk_cell BK330.out 9).trans rfl, (blk_cell BK330.out 10).trans rfl⟩ (fun hHeld => ?_)
                        clear hK K
                        refine norm_ (a' := ?_) ?_ ?_
                        rotate_left
                        · show Act.put _ (some 107) _ = _
                          simp only [Act.put, List.setIfInBounds_toArray, List.set_cons_zero, List.set_cons_succ, i64_w, i32_w]
                          rfl
                        refine pure_ (i := 10) (N := some 108) (v := ?_) (a' := ?_) #[true, true, true, true, true, true, true, true, true, true, true, false, false, false, false, false, false, false, false, false, false, false, false, false, false, false, false, false, false, false, false, false, false, false, false, false, false] rfl rfl (any_of HT_.out (by kernel_rfl)) (fun _ _ _ h => h) (Or.inl ⟨by rfl, ?_⟩) ?_ ?_
                        rotate_left
                        · intro w'
                          go_simp
                          with_reducible rfl
                        rotate_left
                        · simp only [Act.put, List.setIfInBounds_toArray, List.set_cons_zero, List.set_cons_succ, i64_w, i32_w]
                          rfl
                        refine pure_ (i := 11) (N := some 109) (v := ?_) (a' := ?_) #[true, true, true, true, true, true, true, true, true, true, true, true, false, false, false, false, false, false, false, false, false, false, false, false, false, false, false, false, false, false, false, false, false, false, false, false, false] rfl rfl (any_of HT_.out (by kernel_rfl)) (fun _ _ _ h => h) (Or.inl ⟨by rfl, ?_⟩) ?_ ?_
                        rotate_left
                        · intro w'
                          go_simp
                          with_reducible rfl
                        rotate_left
                        · simp only [Act.put, List.setIfInBounds_toArray, List.set_cons_zero, List.set_cons_succ, i64_w, i32_w]
                          rfl
                        refine pure_ (i := 12) (N := some 110) (v := ?_) (a' := ?_) #[true, true, true, true, true, true, true, true, true, true, true, true, true, false, false, false, false, false, false, false, false, false, false, false, false, false, false, false, false, false, false, false, false, false, false, false, false] rfl rfl (any_of HT_.out (by kernel_rfl)) (fun _ _ _ h => h) (Or.inl ⟨by rfl, ?_⟩) ?_ ?_
                        rotate_left
                        · intro w'
                          go_simp
                          with_reducible rfl
                        rotate_left
                        · simp only [Act.put, List.setIfInBounds_toArray, List.set_cons_zero, List.set_cons_succ, i64_w, i32_w]
                          rfl
                        refine take_ (i := 13) (N := some 111) (v := ?_) (a' := ?_) #[true, true, true, true, true, true, true, true, true, true, true, true, true, true, false, false, false, false, false, false, false, false, false, false, false, false, false, false, false, false, false, false, false, false, false, false, false] rfl rfl (take_ofW HT_.out HW_.out (by kernel_rfl)) (fun _ _ _ h => h) (Or.inl ⟨by rfl, ?_⟩) hHeld ?_ ?_
                        rotate_left
                        · rintro w' ⟨s0, s1, s2, s3, s4, s5, s6, s7, s8, s9, s10, s11, s12, s13, s14, s15, s16, s17, s18, s19, s20, s21⟩
                          go_simp
                          with_reducible rfl
                        rotate_left
                        · simp only [Act.put, List.setIfInBounds_toArray, List.set_cons_zero, List.set_cons_succ, i64_w, i32_w]
                          rfl
                        refine take_ (i := 16) (N := some 114) (v := ?_) (a' := ?_) #[true, true, true, true, true, true, true, true, true, true, true, true, true, true, false, false, true, false, false, false, false, false, false, false, false, false, false, false, false, false, false, false, false, false, false, false, false] rfl rfl (take_ofW HT_.out HW_.out (by kernel_rfl)) (fun _ _ _ h => h) (Or.inl ⟨by rfl, ?_⟩) hHeld ?_ ?_
                        rotate_left
                        · rintro w' ⟨s0, s1, s2, s3, s4, s5, s6, s7, s8, s9, s10, s11, s12, s13, s14, s15, s16, s17, s18, s19, s20, s21⟩
                          go_simp
                          with_reducible rfl
                        rotate_left
                        · simp only [Act.put, List.setIfInBounds_toArray, List.set_cons_zero, List.set_cons_succ, i64_w, i32_w]
                          rfl
                        refine one_ (i := 14) (N := some 112) #[true, true, true, true, true, true, true, true, true, true, true, true, true, true, true, false, true, false, false, false, false, false, false, false, false, false, false, false, false, false, false, false, false, false, false, false, false] rfl rfl (one_of HT_.out (by kernel_rfl)) (by decide) (fun K hK => ?_)
                        refine goes_ Try.func23 (by kernel_rfl) rfl #[.agg #[.int .i64 t332, .int .i64 t333, .int .i64 t334, .bool t335, .int .i64 t336, .int .i64 t337, .int .i64 t338, .int .i64 t339, .int .i64 t340, .int .u32 t341, .int .i64 t342]] (by rfl) rfl rfl (by (try simp only [List.map_toArray, List.map_cons, List.map_nil]); first | done | rfl | (simp only [List.length_drop, List.length_take]; rfl)) ?_
                        with_reducible refine (path_Path_Failed.calls kj67 t332 t333 t334 t335 t336 t337 t338 t339 t340 t341 t342 t404 t405 t406 t407 t408 t409 t410 t411 t412 t413 t414 _ A180.out).mono ?_
                        rintro e w196 ⟨rfl, hb⟩
                        refine ⟨_, rfl, ?_⟩
                        have n0_ := A0 (blk_below (by (with_reducible repeat (first | refine q1 ?_ _ | refine q2 ?_ | refine q3 ?_ _)); exact BK330.out) hb)
                        have n1_ := A0 (blk_below (by (with_reducible repeat (first | refine q1 ?_ _ | refine q2 ?_ | refine q3 ?_ _)); exact BK343.out) hb)
                        have n2_ := A0 (blk_below (by (with_reducible repeat (first | refine q1 ?_ _ | refine q2 ?_ | refine q3 ?_ _)); exact BK356.out) hb)
                        have n3_ := A0 (blk_below (by (with_reducible repeat (first | refine q1 ?_ _ | refine q2 ?_ | refine q3 ?_ _)); exact BK394.out) hb)
                        have n4_ := A0 (below_step (by repeat (first | (with_reducible first | exact HB.out | apply b1 | apply b2 | apply b3 | refine below_set ?_ GE330.out | refine below_set ?_ GE343.out | refine below_set ?_ GE356.out | refine below_set ?_ GE394.out) | exact HB.out)) hb)
                        clear BK330 BK343 BK356 BK394 HB
                        have BK330 := n0_
                        have BK343 := n1_
                        have BK356 := n2_
                        have BK394 := n3_
                        have HB := n4_
                        clear n0_ n1_ n2_ n3_ n4_
                        (try clear hb); (try clear hb2); (try clear hk); (try clear hi)
                        refine hK.out _ _ ⟨(blk_cell BK343.out 0).trans rfl, (blk_cell BK343.out 1).trans rfl, (blk_cell BK343.out 2).trans rfl, (blk_cell BK343.out 3).trans rfl, (blk_cell BK343.out 4).trans rfl, (blk_cell BK343.out 5).trans rfl, (blk_cell BK343.out 6).trans rfl, (blk_cell BK343.out 7).trans rfl, (blk_cell BK343.out 8).trans rfl, (blk_cell BK343.out 9).trans rfl, (blk_cell BK343.out 10).trans rfl, (blk_cell BK330.out 0).trans rfl, (blk_cell BK330.out 1).trans rfl, (blk_cell BK330.out 2).trans rfl, (blk_cell BK330.out 3).trans rfl, (blk_cell BK330.out 4).trans rfl, (blk_cell BK330.out 5).trans rfl, (blk_cell BK330.out 6).trans rfl, (blk_cell BK330.out 7).trans rfl, (blk_cell BK330.out 8).trans rfl, (blk_cell BK330.out 9).trans rfl, (blk_cell BK330.out 10).trans rfl⟩ (fun hHeld => ?_)
                        clear hK K
                        refine norm_ (a' := ?_) ?_ ?_
                        rotate_left
                        · show Act.put _ (some 112) _ = _
                          simp only [Act.put, List.setIfInBounds_toArray, List.set_cons_zero, List.set_cons_succ, i64_w, i32_w]
                          rfl
                        refine one_ (i := 15) (N := some 113) #[true, true, true, true, true, true, true, true, true, true, true, true, true, true, true, true, true, false, false, false, false, false, false, false, false, false, false, false, false, false, false, false, false, false, false, false, false] rfl rfl (one_of HT_.out (by kernel_rfl)) (by decide) (fun K hK => ?_)
                        refine goes_ Try.func16 (by kernel_rfl) rfl #[.agg #[.int .i64 t404, .int .i64 t405, .int .i64 t406, .bool t407, .int .i64 t408, .int .i64 t409, .int .i64 t410, .int .i64 t411, .int .i64 t412, .int .u32 t413, .int .i64 t414]] (by rfl) rfl rfl (by (try simp only [List.map_toArray, List.map_cons, List.map_nil]); first | done | rfl | (simp only [List.length_drop, List.length_take]; rfl)) ?_
                        with_reducible refine (weftlinelaw13_Document.calls t404 t405 t406 t407 t408 t409 t410 t411 t412 t413 t414 t415 t416 t417 t418 t419 t420 t421 t422 t423 t424 t425 _ A181.out).mono ?_
                        rintro e w197 ⟨rfl, hb⟩
                        refine ⟨_, rfl, ?_⟩
                        have n0_ := A0 (blk_below (by (with_reducible repeat (first | refine q1 ?_ _ | refine q2 ?_ | refine q3 ?_ _)); exact BK330.out) hb)
                        have n1_ := A0 (blk_below (by (with_reducible repeat (first | refine q1 ?_ _ | refine q2 ?_ | refine q3 ?_ _)); exact BK343.out) hb)
                        have n2_ := A0 (blk_below (by (with_reducible repeat (first | refine q1 ?_ _ | refine q2 ?_ | refine q3 ?_ _)); exact BK356.out) hb)
                        have n3_ := A0 (blk_below (by (with_reducible repeat (first | refine q1 ?_ _ | refine q2 ?_ | refine q3 ?_ _)); exact BK394.out) hb)
                        have n4_ := A0 (below_step (by repeat (first | (with_reducible first | exact HB.out | apply b1 | apply b2 | apply b3 | refine below_set ?_ GE330.out | refine below_set ?_ GE343.out | refine below_set ?_ GE356.out | refine below_set ?_ GE394.out) | exact HB.out)) hb)
                        clear BK330 BK343 BK356 BK394 HB
                        have BK330 := n0_
                        have BK343 := n1_
                        have BK356 := n2_
                        have BK394 := n3_
                        have HB := n4_
                        clear n0_ n1_ n2_ n3_ n4_
                        (try clear hb); (try clear hb2); (try clear hk); (try clear hi)
                        refine hK.out _ _ ⟨(blk_cell BK343.out 0).trans rfl, (blk_cell BK343.out 1).trans rfl, (blk_cell BK343.out 2).trans rfl, (blk_cell BK343.out 3).trans rfl, (blk_cell BK343.out 4).trans rfl, (blk_cell BK343.out 5).trans rfl, (blk_cell BK343.out 6).trans rfl, (blk_cell BK343.out 7).trans rfl, (blk_cell BK343.out 8).trans rfl, (blk_cell BK343.out 9).trans rfl, (blk_cell BK343.out 10).trans rfl, (blk_cell BK330.out 0).trans rfl, (blk_cell BK330.out 1).trans rfl, (blk_cell BK330.out 2).trans rfl, (blk_cell BK330.out 3).trans rfl, (blk_cell BK330.out 4).trans rfl, (blk_cell BK330.out 5).trans rfl, (blk_cell BK330.out 6).trans rfl, (blk_cell BK330.out 7).trans rfl, (blk_cell BK330.out 8).trans rfl, (blk_cell BK330.out 9).trans rfl, (blk_cell BK330.out 10).trans rfl⟩ (fun hHeld => ?_)
                        clear hK K
                        refine norm_ (a' := ?_) ?_ ?_
                        rotate_left
                        · show Act.put _ (some 113) _ = _
                          simp only [Act.put, List.setIfInBounds_toArray, List.set_cons_zero, List.set_cons_succ, i64_w, i32_w]
                          rfl
                        refine one_ (i := 17) (N := some 115) #[true, true, true, true, true, true, true, true, true, true, true, true, true, true, true, true, true, true, false, false, false, false, false, false, false, false, false, false, false, false, false, false, false, false, false, false, false] rfl rfl (one_of HT_.out (by kernel_rfl)) (by decide) (fun K hK => ?_)
                        refine goes_ Try.func24 (by kernel_rfl) rfl #[.agg #[.int .i64 a0_0, .int .i64 a0_1, .int .i64 a0_2, .bool a0_3, .int .i64 a0_4, .int .i64 a0_5, .int .i64 a0_6, .int .i64 a0_7, .int .i64 a0_8, .int .u32 a0_9, .int .i64 a0_10]] (by rfl) rfl rfl (by (try simp only [List.map_toArray, List.map_cons, List.map_nil]); first | done | rfl | (simp only [List.length_drop, List.length_take]; rfl)) ?_
                        with_reducible refine (weftlineref13_Failed.calls kj67 a0_0 a0_1 a0_2 a0_3 a0_4 a0_5 a0_6 a0_7 a0_8 a0_9 a0_10 t426 t427 t428 t429 t430 t431 t432 t433 t434 t435 t436 _ A182.out).mono ?_
                        rintro e w198 ⟨rfl, hb⟩
                        refine ⟨_, rfl, ?_⟩
                        have n0_ := A0 (blk_below (by (with_reducible repeat (first | refine q1 ?_ _ | refine q2 ?_ | refine q3 ?_ _)); exact BK330.out) hb)
                        have n1_ := A0 (blk_below (by (with_reducible repeat (first | refine q1 ?_ _ | refine q2 ?_ | refine q3 ?_ _)); exact BK343.out) hb)
                        have n2_ := A0 (blk_below (by (with_reducible repeat (first | refine q1 ?_ _ | refine q2 ?_ | refine q3 ?_ _)); exact BK356.out) hb)
                        have n3_ := A0 (blk_below (by (with_reducible repeat (first | refine q1 ?_ _ | refine q2 ?_ | refine q3 ?_ _)); exact BK394.out) hb)
                        have n4_ := A0 (below_step (by repeat (first | (with_reducible first | exact HB.out | apply b1 | apply b2 | apply b3 | refine below_set ?_ GE330.out | refine below_set ?_ GE343.out | refine below_set ?_ GE356.out | refine below_set ?_ GE394.out) | exact HB.out)) hb)
                        clear BK330 BK343 BK356 BK394 HB
                        have BK330 := n0_
                        have BK343 := n1_
                        have BK356 := n2_
                        have BK394 := n3_
                        have HB := n4_
                        clear n0_ n1_ n2_ n3_ n4_
                        (try clear hb); (try clear hb2); (try clear hk); (try clear hi)
                        refine hK.out _ _ ⟨(blk_cell BK343.out 0).trans rfl, (blk_cell BK343.out 1).trans rfl, (blk_cell BK343.out 2).trans rfl, (blk_cell BK343.out 3).trans rfl, (blk_cell BK343.out 4).trans rfl, (blk_cell BK343.out 5).trans rfl, (blk_cell BK343.out 6).trans rfl, (blk_cell BK343.out 7).trans rfl, (blk_cell BK343.out 8).trans rfl, (blk_cell BK343.out 9).trans rfl, (blk_cell BK343.out 10).trans rfl, (blk_cell BK330.out 0).trans rfl, (blk_cell BK330.out 1).trans rfl, (blk_cell BK330.out 2).trans rfl, (blk_cell BK330.out 3).trans rfl, (blk_cell BK330.out 4).trans rfl, (blk_cell BK330.out 5).trans rfl, (blk_cell BK330.out 6).trans rfl, (blk_cell BK330.out 7).trans rfl, (blk_cell BK330.out 8).trans rfl, (blk_cell BK330.out 9).trans rfl, (blk_cell BK330.out 10).trans rfl⟩ (fun hHeld => ?_)
                        clear hK K
                        refine norm_ (a' := ?_) ?_ ?_
                        rotate_left
                        · show Act.put _ (some 115) _ = _
                          simp only [Act.put, List.setIfInBounds_toArray, List.set_cons_zero, List.set_cons_succ, i64_w, i32_w]
                          rfl
                        refine pure_ (i := 18) (N := some 116) (v := ?_) (a' := ?_) #[true, true, true, true, true, true, true, true, true, true, true, true, true, true, true, true, true, true, true, false, false, false, false, false, false, false, false, false, false, false, false, false, false, false, false, false, false] rfl rfl (any_of HT_.out (by kernel_rfl)) (fun _ _ _ h => h) (Or.inl ⟨by rfl, ?_⟩) ?_ ?_
                        rotate_left
                        · intro w'
                          go_simp
                          with_reducible rfl
                        rotate_left
                        · simp only [Act.put, List.setIfInBounds_toArray, List.set_cons_zero, List.set_cons_succ, i64_w, i32_w]
                          rfl
                        refine pure_ (i := 19) (N := some 117) (v := ?_) (a' := ?_) #[true, true, true, true, true, true, true, true, true, true, true, true, true, true, true, true, true, true, true, true, false, false, false, false, false, false, false, false, false, false, false, false, false, false, false, false, false] rfl rfl (any_of HT_.out (by kernel_rfl)) (fun _ _ _ h => h) (Or.inl ⟨by rfl, ?_⟩) ?_ ?_
                        rotate_left
                        · intro w'
                          go_simp
                          with_reducible rfl
                        rotate_left
                        · simp only [Act.put, List.setIfInBounds_toArray, List.set_cons_zero, List.set_cons_succ, i64_w, i32_w]
                          rfl
                        refine pure_ (i := 20) (N := some 118) (v := ?_) (a' := ?_) #[true, true, true, true, true, true, true, true, true, true, true, true, true, true, true, true, true, true, true, true, true, false, false, false, false, false, false, false, false, false, false, false, false, false, false, false, false] rfl rfl (any_of HT_.out (by kernel_rfl)) (fun _ _ _ h => h) (Or.inl ⟨by rfl, ?_⟩) ?_ ?_
                        rotate_left
                        · intro w'
                          go_simp
                          with_reducible rfl
                        rotate_left
                        · simp only [Act.put, List.setIfInBounds_toArray, List.set_cons_zero, List.set_cons_succ, i64_w, i32_w]
                          rfl
                        refine take_ (i := 21) (N := some 119) (v := ?_) (a' := ?_) #[true, true, true, true, true, true, true, true, true, true, true, true, true, true, true, true, true, true, true, true, true, true, false, false, false, false, false, false, false, false, false, false, false, false, false, false, false] rfl rfl (take_ofW HT_.out HW_.out (by kernel_rfl)) (fun _ _ _ h => h) (Or.inl ⟨by rfl, ?_⟩) hHeld ?_ ?_
                        rotate_left
                        · rintro w' ⟨s0, s1, s2, s3, s4, s5, s6, s7, s8, s9, s10, s11, s12, s13, s14, s15, s16, s17, s18, s19, s20, s21⟩
                          go_simp
                          with_reducible rfl
                        rotate_left
                        · simp only [Act.put, List.setIfInBounds_toArray, List.set_cons_zero, List.set_cons_succ, i64_w, i32_w]
                          rfl
                        refine take_ (i := 24) (N := some 122) (v := ?_) (a' := ?_) #[true, true, true, true, true, true, true, true, true, true, true, true, true, true, true, true, true, true, true, true, true, true, false, false, true, false, false, false, false, false, false, false, false, false, false, false, false] rfl rfl (take_ofW HT_.out HW_.out (by kernel_rfl)) (fun _ _ _ h => h) (Or.inl ⟨by rfl, ?_⟩) hHeld ?_ ?_
                        rotate_left
                        · rintro w' ⟨s0, s1, s2, s3, s4, s5, s6, s7, s8, s9, s10, s11, s12, s13, s14, s15, s16, s17, s18, s19, s20, s21⟩
                          go_simp
                          with_reducible rfl
                        rotate_left
                        · simp only [Act.put, List.setIfInBounds_toArray, List.set_cons_zero, List.set_cons_succ, i64_w, i32_w]
                          rfl
                        refine one_ (i := 22) (N := some 120) #[true, true, true, true, true, true, true, true, true, true, true, true, true, true, true, true, true, true, true, true, true, true, true, false, true, false, false, false, false, false, false, false, false, false, false, false, false] rfl rfl (one_of HT_.out (by kernel_rfl)) (by decide) (fun K hK => ?_)
                        refine goes_ Try.func25 (by kernel_rfl) rfl #[.agg #[.int .i64 t332, .int .i64 t333, .int .i64 t334, .bool t335, .int .i64 t336, .int .i64 t337, .int .i64 t338, .int .i64 t339, .int .i64 t340, .int .u32 t341, .int .i64 t342]] (by rfl) rfl rfl (by (try simp only [List.map_toArray, List.map_cons, List.map_nil]); first | done | rfl | (simp only [List.length_drop, List.length_take]; rfl)) ?_
                        with_reducible refine (path_Path_Heard.calls kj67 t332 t333 t334 t335 t336 t337 t338 t339 t340 t341 t342 t437 t438 t439 t440 t441 t442 t443 t444 t445 t446 t447 _ A184.out).mono ?_
                        rintro e w199 ⟨rfl, hb⟩
                        refine ⟨_, rfl, ?_⟩
                        have n0_ := A0 (blk_below (by (with_reducible repeat (first | refine q1 ?_ _ | refine q2 ?_ | refine q3 ?_ _)); exact BK330.out) hb)
                        have n1_ := A0 (blk_below (by (with_reducible repeat (first | refine q1 ?_ _ | refine q2 ?_ | refine q3 ?_ _)); exact BK343.out) hb)
                        have n2_ := A0 (blk_below (by (with_reducible repeat (first | refine q1 ?_ _ | refine q2 ?_ | refine q3 ?_ _)); exact BK356.out) hb)
                        have n3_ := A0 (blk_below (by (with_reducible repeat (first | refine q1 ?_ _ | refine q2 ?_ | refine q3 ?_ _)); exact BK394.out) hb)
                        have n4_ := A0 (below_step (by repeat (first | (with_reducible first | exact HB.out | apply b1 | apply b2 | apply b3 | refine below_set ?_ GE330.out | refine below_set ?_ GE343.out | refine below_set ?_ GE356.out | refine below_set ?_ GE394.out) | exact HB.out)) hb)
                        clear BK330 BK343 BK356 BK394 HB
                        have BK330 := n0_
                        have BK343 := n1_
                        have BK356 := n2_
                        have BK394 := n3_
                        have HB := n4_
                        clear n0_ n1_ n2_ n3_ n4_
                        (try clear hb); (try clear hb2); (try clear hk); (try clear hi)
                        refine hK.out _ _ ⟨(blk_cell BK343.out 0).trans rfl, (blk_cell BK343.out 1).trans rfl, (blk_cell BK343.out 2).trans rfl, (blk_cell BK343.out 3).trans rfl, (blk_cell BK343.out 4).trans rfl, (blk_cell BK343.out 5).trans rfl, (blk_cell BK343.out 6).trans rfl, (blk_cell BK343.out 7).trans rfl, (blk_cell BK343.out 8).trans rfl, (blk_cell BK343.out 9).trans rfl, (blk_cell BK343.out 10).trans rfl, (blk_cell BK330.out 0).trans rfl, (blk_cell BK330.out 1).trans rfl, (blk_cell BK330.out 2).trans rfl, (blk_cell BK330.out 3).trans rfl, (blk_cell BK330.out 4).trans rfl, (blk_cell BK330.out 5).trans rfl, (blk_cell BK330.out 6).trans rfl, (blk_cell BK330.out 7).trans rfl, (blk_cell BK330.out 8).trans rfl, (blk_cell BK330.out 9).trans rfl, (blk_cell BK330.out 10).trans rfl⟩ (fun hHeld => ?_)
                        clear hK K
                        refine norm_ (a' := ?_) ?_ ?_
                        rotate_left
                        · show Act.put _ (some 120) _ = _
                          simp only [Act.put, List.setIfInBounds_toArray, List.set_cons_zero, List.set_cons_succ, i64_w, i32_w]
                          rfl
                        refine one_ (i := 23) (N := some 121) #[true, true, true, true, true, true, true, true, true, true, true, true, true, true, true, true, true, true, true, true, true, true, true, true, true, false, false, false, false, false, false, false, false, false, false, false, false] rfl rfl (one_of HT_.out (by kernel_rfl)) (by decide) (fun K hK => ?_)
                        refine goes_ Try.func16 (by kernel_rfl) rfl #[.agg #[.int .i64 t437, .int .i64 t438, .int .i64 t439, .bool t440, .int .i64 t441, .int .i64 t442, .int .i64 t443, .int .i64 t444, .int .i64 t445, .int .u32 t446, .int .i64 t447]] (by rfl) rfl rfl (by (try simp only [List.map_toArray, List.map_cons, List.map_nil]); first | done | rfl | (simp only [List.length_drop, List.length_take]; rfl)) ?_
                        with_reducible refine (weftlinelaw13_Document.calls t437 t438 t439 t440 t441 t442 t443 t444 t445 t446 t447 t448 t449 t450 t451 t452 t453 t454 t455 t456 t457 t458 _ A185.out).mono ?_
                        rintro e w200 ⟨rfl, hb⟩
                        refine ⟨_, rfl, ?_⟩
                        have n0_ := A0 (blk_below (by (with_reducible repeat (first | refine q1 ?_ _ | refine q2 ?_ | refine q3 ?_ _)); exact BK330.out) hb)
                        have n1_ := A0 (blk_below (by (with_reducible repeat (first | refine q1 ?_ _ | refine q2 ?_ | refine q3 ?_ _)); exact BK343.out) hb)
                        have n2_ := A0 (blk_below (by (with_reducible repeat (first | refine q1 ?_ _ | refine q2 ?_ | refine q3 ?_ _)); exact BK356.out) hb)
                        have n3_ := A0 (blk_below (by (with_reducible repeat (first | refine q1 ?_ _ | refine q2 ?_ | refine q3 ?_ _)); exact BK394.out) hb)
                        have n4_ := A0 (below_step (by repeat (first | (with_reducible first | exact HB.out | apply b1 | apply b2 | apply b3 | refine below_set ?_ GE330.out | refine below_set ?_ GE343.out | refine below_set ?_ GE356.out | refine below_set ?_ GE394.out) | exact HB.out)) hb)
                        clear BK330 BK343 BK356 BK394 HB
                        have BK330 := n0_
                        have BK343 := n1_
                        have BK356 := n2_
                        have BK394 := n3_
                        have HB := n4_
                        clear n0_ n1_ n2_ n3_ n4_
                        (try clear hb); (try clear hb2); (try clear hk); (try clear hi)
                        refine hK.out _ _ ⟨(blk_cell BK343.out 0).trans rfl, (blk_cell BK343.out 1).trans rfl, (blk_cell BK343.out 2).trans rfl, (blk_cell BK343.out 3).trans rfl, (blk_cell BK343.out 4).trans rfl, (blk_cell BK343.out 5).trans rfl, (blk_cell BK343.out 6).trans rfl, (blk_cell BK343.out 7).trans rfl, (blk_cell BK343.out 8).trans rfl, (blk_cell BK343.out 9).trans rfl, (blk_cell BK343.out 10).trans rfl, (blk_cell BK330.out 0).trans rfl, (blk_cell BK330.out 1).trans rfl, (blk_cell BK330.out 2).trans rfl, (blk_cell BK330.out 3).trans rfl, (blk_cell BK330.out 4).trans rfl, (blk_cell BK330.out 5).trans rfl, (blk_cell BK330.out 6).trans rfl, (blk_cell BK330.out 7).trans rfl, (blk_cell BK330.out 8).trans rfl, (blk_cell BK330.out 9).trans rfl, (blk_cell BK330.out 10).trans rfl⟩ (fun hHeld => ?_)
                        clear hK K
                        refine norm_ (a' := ?_) ?_ ?_
                        rotate_left
                        · show Act.put _ (some 121) _ = _
                          simp only [Act.put, List.setIfInBounds_toArray, List.set_cons_zero, List.set_cons_succ, i64_w, i32_w]
                          rfl
                        refine one_ (i := 25) (N := some 123) #[true, true, true, true, true, true, true, true, true, true, true, true, true, true, true, true, true, true, true, true, true, true, true, true, true, true, false, false, false, false, false, false, false, false, false, false, false] rfl rfl (one_of HT_.out (by kernel_rfl)) (by decide) (fun K hK => ?_)
                        refine goes_ Try.func26 (by kernel_rfl) rfl #[.agg #[.int .i64 a0_0, .int .i64 a0_1, .int .i64 a0_2, .bool a0_3, .int .i64 a0_4, .int .i64 a0_5, .int .i64 a0_6, .int .i64 a0_7, .int .i64 a0_8, .int .u32 a0_9, .int .i64 a0_10]] (by rfl) rfl rfl (by (try simp only [List.map_toArray, List.map_cons, List.map_nil]); first | done | rfl | (simp only [List.length_drop, List.length_take]; rfl)) ?_
                        with_reducible refine (weftlineref13_Heard.calls kj67 a0_0 a0_1 a0_2 a0_3 a0_4 a0_5 a0_6 a0_7 a0_8 a0_9 a0_10 t459 t460 t461 t462 t463 t464 t465 t466 t467 t468 t469 _ A186.out).mono ?_
                        rintro e w201 ⟨rfl, hb⟩
                        refine ⟨_, rfl, ?_⟩
                        have n0_ := A0 (blk_below (by (with_reducible repeat (first | refine q1 ?_ _ | refine q2 ?_ | refine q3 ?_ _)); exact BK330.out) hb)
                        have n1_ := A0 (blk_below (by (with_reducible repeat (first | refine q1 ?_ _ | refine q2 ?_ | refine q3 ?_ _)); exact BK343.out) hb)
                        have n2_ := A0 (blk_below (by (with_reducible repeat (first | refine q1 ?_ _ | refine q2 ?_ | refine q3 ?_ _)); exact BK356.out) hb)
                        have n3_ := A0 (blk_below (by (with_reducible repeat (first | refine q1 ?_ _ | refine q2 ?_ | refine q3 ?_ _)); exact BK394.out) hb)
                        have n4_ := A0 (below_step (by repeat (first | (with_reducible first | exact HB.out | apply b1 | apply b2 | apply b3 | refine below_set ?_ GE330.out | refine below_set ?_ GE343.out | refine below_set ?_ GE356.out | refine below_set ?_ GE394.out) | exact HB.out)) hb)
                        clear BK330 BK343 BK356 BK394 HB
                        have BK330 := n0_
                        have BK343 := n1_
                        have BK356 := n2_
                        have BK394 := n3_
                        have HB := n4_
                        clear n0_ n1_ n2_ n3_ n4_
                        (try clear hb); (try clear hb2); (try clear hk); (try clear hi)
                        refine hK.out _ _ ⟨(blk_cell BK343.out 0).trans rfl, (blk_cell BK343.out 1).trans rfl, (blk_cell BK343.out 2).trans rfl, (blk_cell BK343.out 3).trans rfl, (blk_cell BK343.out 4).trans rfl, (blk_cell BK343.out 5).trans rfl, (blk_cell BK343.out 6).trans rfl, (blk_cell BK343.out 7).trans rfl, (blk_cell BK343.out 8).trans rfl, (blk_cell BK343.out 9).trans rfl, (blk_cell BK343.out 10).trans rfl, (blk_cell BK330.out 0).trans rfl, (blk_cell BK330.out 1).trans rfl, (blk_cell BK330.out 2).trans rfl, (blk_cell BK330.out 3).trans rfl, (blk_cell BK330.out 4).trans rfl, (blk_cell BK330.out 5).trans rfl, (blk_cell BK330.out 6).trans rfl, (blk_cell BK330.out 7).trans rfl, (blk_cell BK330.out 8).trans rfl, (blk_cell BK330.out 9).trans rfl, (blk_cell BK330.out 10).trans rfl⟩ (fun hHeld => ?_)
                        clear hK K
                        refine norm_ (a' := ?_) ?_ ?_
                        rotate_left
                        · show Act.put _ (some 123) _ = _
                          simp only [Act.put, List.setIfInBounds_toArray, List.set_cons_zero, List.set_cons_succ, i64_w, i32_w]
                          rfl
                        refine pure_ (i := 26) (N := some 124) (v := ?_) (a' := ?_) #[true, true, true, true, true, true, true, true, true, true, true, true, true, true, true, true, true, true, true, true, true, true, true, true, true, true, true, false, false, false, false, false, false, false, false, false, false] rfl rfl (any_of HT_.out (by kernel_rfl)) (fun _ _ _ h => h) (Or.inl ⟨by rfl, ?_⟩) ?_ ?_
                        rotate_left
                        · intro w'
                          go_simp
                          with_reducible rfl
                        rotate_left
                        · simp only [Act.put, List.setIfInBounds_toArray, List.set_cons_zero, List.set_cons_succ, i64_w, i32_w]
                          rfl
                        refine pure_ (i := 27) (N := some 125) (v := ?_) (a' := ?_) #[true, true, true, true, true, true, true, true, true, true, true, true, true, true, true, true, true, true, true, true, true, true, true, true, true, true, true, true, false, false, false, false, false, false, false, false, false] rfl rfl (any_of HT_.out (by kernel_rfl)) (fun _ _ _ h => h) (Or.inl ⟨by rfl, ?_⟩) ?_ ?_
                        rotate_left
                        · intro w'
                          go_simp
                          with_reducible rfl
                        rotate_left
                        · simp only [Act.put, List.setIfInBounds_toArray, List.set_cons_zero, List.set_cons_succ, i64_w, i32_w]
                          rfl
                        refine pure_ (i := 28) (N := some 126) (v := ?_) (a' := ?_) #[true, true, true, true, true, true, true, true, true, true, true, true, true, true, true, true, true, true, true, true, true, true, true, true, true, true, true, true, true, false, false, false, false, false, false, false, false] rfl rfl (any_of HT_.out (by kernel_rfl)) (fun _ _ _ h => h) (Or.inl ⟨by rfl, ?_⟩) ?_ ?_
                        rotate_left
                        · intro w'
                          go_simp
                          with_reducible rfl
                        rotate_left
                        · simp only [Act.put, List.setIfInBounds_toArray, List.set_cons_zero, List.set_cons_succ, i64_w, i32_w]
                          rfl
                        refine take_ (i := 29) (N := some 127) (v := ?_) (a' := ?_) #[true, true, true, true, true, true, true, true, true, true, true, true, true, true, true, true, true, true, true, true, true, true, true, true, true, true, true, true, true, true, false, false, false, false, false, false, false] rfl rfl (take_ofW HT_.out HW_.out (by kernel_rfl)) (fun _ _ _ h => h) (Or.inl ⟨by rfl, ?_⟩) hHeld ?_ ?_
                        rotate_left
                        · rintro w' ⟨s0, s1, s2, s3, s4, s5, s6, s7, s8, s9, s10, s11, s12, s13, s14, s15, s16, s17, s18, s19, s20, s21⟩
                          go_simp
                          with_reducible rfl
                        rotate_left
                        · simp only [Act.put, List.setIfInBounds_toArray, List.set_cons_zero, List.set_cons_succ, i64_w, i32_w]
                          rfl
                        refine take_ (i := 32) (N := some 130) (v := ?_) (a' := ?_) #[true, true, true, true, true, true, true, true, true, true, true, true, true, true, true, true, true, true, true, true, true, true, true, true, true, true, true, true, true, true, false, false, true, false, false, false, false] rfl rfl (take_ofW HT_.out HW_.out (by kernel_rfl)) (fun _ _ _ h => h) (Or.inl ⟨by rfl, ?_⟩) hHeld ?_ ?_
                        rotate_left
                        · rintro w' ⟨s0, s1, s2, s3, s4, s5, s6, s7, s8, s9, s10, s11, s12, s13, s14, s15, s16, s17, s18, s19, s20, s21⟩
                          go_simp
                          with_reducible rfl
                        rotate_left
                        · simp only [Act.put, List.setIfInBounds_toArray, List.set_cons_zero, List.set_cons_succ, i64_w, i32_w]
                          rfl
                        refine one_ (i := 30) (N := some 128) #[true, true, true, true, true, true, true, true, true, true, true, true, true, true, true, true, true, true, true, true, true, true, true, true, true, true, true, true, true, true, true, false, true, false, false, false, false] rfl rfl (one_of HT_.out (by kernel_rfl)) (by decide) (fun K hK => ?_)
                        refine goes_ Try.func27 (by kernel_rfl) rfl #[.agg #[.int .i64 t332, .int .i64 t333, .int .i64 t334, .bool t335, .int .i64 t336, .int .i64 t337, .int .i64 t338, .int .i64 t339, .int .i64 t340, .int .u32 t341, .int .i64 t342]] (by rfl) rfl rfl (by (try simp only [List.map_toArray, List.map_cons, List.map_nil]); first | done | rfl | (simp only [List.length_drop, List.length_take]; rfl)) ?_
                        with_reducible refine (path_Path_Missed.calls kj67 t332 t333 t334 t335 t336 t337 t338 t339 t340 t341 t342 t470 t471 t472 t473 t474 t475 t476 t477 t478 t479 t480 _ A188.out).mono ?_
                        rintro e w202 ⟨rfl, hb⟩
                        refine ⟨_, rfl, ?_⟩
                        have n0_ := A0 (blk_below (by (with_reducible repeat (first | refine q1 ?_ _ | refine q2 ?_ | refine q3 ?_ _)); exact BK330.out) hb)
                        have n1_ := A0 (blk_below (by (with_reducible repeat (first | refine q1 ?_ _ | refine q2 ?_ | refine q3 ?_ _)); exact BK343.out) hb)
                        have n2_ := A0 (blk_below (by (with_reducible repeat (first | refine q1 ?_ _ | refine q2 ?_ | refine q3 ?_ _)); exact BK356.out) hb)
                        have n3_ := A0 (blk_below (by (with_reducible repeat (first | refine q1 ?_ _ | refine q2 ?_ | refine q3 ?_ _)); exact BK394.out) hb)
                        have n4_ := A0 (below_step (by repeat (first | (with_reducible first | exact HB.out | apply b1 | apply b2 | apply b3 | refine below_set ?_ GE330.out | refine below_set ?_ GE343.out | refine below_set ?_ GE356.out | refine below_set ?_ GE394.out) | exact HB.out)) hb)
                        clear BK330 BK343 BK356 BK394 HB
                        have BK330 := n0_
                        have BK343 := n1_
                        have BK356 := n2_
                        have BK394 := n3_
                        have HB := n4_
                        clear n0_ n1_ n2_ n3_ n4_
                        (try clear hb); (try clear hb2); (try clear hk); (try clear hi)
                        refine hK.out _ _ ⟨(blk_cell BK343.out 0).trans rfl, (blk_cell BK343.out 1).trans rfl, (blk_cell BK343.out 2).trans rfl, (blk_cell BK343.out 3).trans rfl, (blk_cell BK343.out 4).trans rfl, (blk_cell BK343.out 5).trans rfl, (blk_cell BK343.out 6).trans rfl, (blk_cell BK343.out 7).trans rfl, (blk_cell BK343.out 8).trans rfl, (blk_cell BK343.out 9).trans rfl, (blk_cell BK343.out 10).trans rfl, (blk_cell BK330.out 0).trans rfl, (blk_cell BK330.out 1).trans rfl, (blk_cell BK330.out 2).trans rfl, (blk_cell BK330.out 3).trans rfl, (blk_cell BK330.out 4).trans rfl, (blk_cell BK330.out 5).trans rfl, (blk_cell BK330.out 6).trans rfl, (blk_cell BK330.out 7).trans rfl, (blk_cell BK330.out 8).trans rfl, (blk_cell BK330.out 9).trans rfl, (blk_cell BK330.out 10).trans rfl⟩ (fun hHeld => ?_)
                        clear hK K
                        refine norm_ (a' := ?_) ?_ ?_
                        rotate_left
                        · show Act.put _ (some 128) _ = _
                          simp only [Act.put, List.setIfInBounds_toArray, List.set_cons_zero, List.set_cons_succ, i64_w, i32_w]
                          rfl
                        refine one_ (i := 31) (N := some 129) #[true, true, true, true, true, true, true, true, true, true, true, true, true, true, true, true, true, true, true, true, true, true, true, true, true, true, true, true, true, true, true, true, true, false, false, false, false] rfl rfl (one_of HT_.out (by kernel_rfl)) (by decide) (fun K hK => ?_)
                        refine goes_ Try.func16 (by kernel_rfl) rfl #[.agg #[.int .i64 t470, .int .i64 t471, .int .i64 t472, .bool t473, .int .i64 t474, .int .i64 t475, .int .i64 t476, .int .i64 t477, .int .i64 t478, .int .u32 t479, .int .i64 t480]] (by rfl) rfl rfl (by (try simp only [List.map_toArray, List.map_cons, List.map_nil]); first | done | rfl | (simp only [List.length_drop, List.length_take]; rfl)) ?_
                        with_reducible refine (weftlinelaw13_Document.calls t470 t471 t472 t473 t474 t475 t476 t477 t478 t479 t480 t481 t482 t483 t484 t485 t486 t487 t488 t489 t490 t491 _ A189.out).mono ?_
                        rintro e w203 ⟨rfl, hb⟩
                        refine ⟨_, rfl, ?_⟩
                        have n0_ := A0 (blk_below (by (with_reducible repeat (first | refine q1 ?_ _ | refine q2 ?_ | refine q3 ?_ _)); exact BK330.out) hb)
                        have n1_ := A0 (blk_below (by (with_reducible repeat (first | refine q1 ?_ _ | refine q2 ?_ | refine q3 ?_ _)); exact BK343.out) hb)
                        have n2_ := A0 (blk_below (by (with_reducible repeat (first | refine q1 ?_ _ | refine q2 ?_ | refine q3 ?_ _)); exact BK356.out) hb)
                        have n3_ := A0 (blk_below (by (with_reducible repeat (first | refine q1 ?_ _ | refine q2 ?_ | refine q3 ?_ _)); exact BK394.out) hb)
                        have n4_ := A0 (below_step (by repeat (first | (with_reducible first | exact HB.out | apply b1 | apply b2 | apply b3 | refine below_set ?_ GE330.out | refine below_set ?_ GE343.out | refine below_set ?_ GE356.out | refine below_set ?_ GE394.out) | exact HB.out)) hb)
                        clear BK330 BK343 BK356 BK394 HB
                        have BK330 := n0_
                        have BK343 := n1_
                        have BK356 := n2_
                        have BK394 := n3_
                        have HB := n4_
                        clear n0_ n1_ n2_ n3_ n4_
                        (try clear hb); (try clear hb2); (try clear hk); (try clear hi)
                        refine hK.out _ _ ⟨(blk_cell BK343.out 0).trans rfl, (blk_cell BK343.out 1).trans rfl, (blk_cell BK343.out 2).trans rfl, (blk_cell BK343.out 3).trans rfl, (blk_cell BK343.out 4).trans rfl, (blk_cell BK343.out 5).trans rfl, (blk_cell BK343.out 6).trans rfl, (blk_cell BK343.out 7).trans rfl, (blk_cell BK343.out 8).trans rfl, (blk_cell BK343.out 9).trans rfl, (blk_cell BK343.out 10).trans rfl, (blk_cell BK330.out 0).trans rfl, (blk_cell BK330.out 1).trans rfl, (blk_cell BK330.out 2).trans rfl, (blk_cell BK330.out 3).trans rfl, (blk_cell BK330.out 4).trans rfl, (blk_cell BK330.out 5).trans rfl, (blk_cell BK330.out 6).trans rfl, (blk_cell BK330.out 7).trans rfl, (blk_cell BK330.out 8).trans rfl, (blk_cell BK330.out 9).trans rfl, (blk_cell BK330.out 10).trans rfl⟩ (fun hHeld => ?_)
                        clear hK K
                        refine norm_ (a' := ?_) ?_ ?_
                        rotate_left
                        · show Act.put _ (some 129) _ = _
                          simp only [Act.put, List.setIfInBounds_toArray, List.set_cons_zero, List.set_cons_succ, i64_w, i32_w]
                          rfl
                        refine one_ (i := 33) (N := some 131) #[true, true, true, true, true, true, true, true, true, true, true, true, true, true, true, true, true, true, true, true, true, true, true, true, true, true, true, true, true, true, true, true, true, true, false, false, false] rfl rfl (one_of HT_.out (by kernel_rfl)) (by decide) (fun K hK => ?_)
                        refine goes_ Try.func28 (by kernel_rfl) rfl #[.agg #[.int .i64 a0_0, .int .i64 a0_1, .int .i64 a0_2, .bool a0_3, .int .i64 a0_4, .int .i64 a0_5, .int .i64 a0_6, .int .i64 a0_7, .int .i64 a0_8, .int .u32 a0_9, .int .i64 a0_10]] (by rfl) rfl rfl (by (try simp only [List.map_toArray, List.map_cons, List.map_nil]); first | done | rfl | (simp only [List.length_drop, List.length_take]; rfl)) ?_
                        with_reducible refine (weftlineref13_Missed.calls kj67 a0_0 a0_1 a0_2 a0_3 a0_4 a0_5 a0_6 a0_7 a0_8 a0_9 a0_10 t492 t493 t494 t495 t496 t497 t498 t499 t500 t501 t502 _ A190.out).mono ?_
                        rintro e w204 ⟨rfl, hb⟩
                        refine ⟨_, rfl, ?_⟩
                        have n0_ := A0 (blk_below (by (with_reducible repeat (first | refine q1 ?_ _ | refine q2 ?_ | refine q3 ?_ _)); exact BK330.out) hb)
                        have n1_ := A0 (blk_below (by (with_reducible repeat (first | refine q1 ?_ _ | refine q2 ?_ | refine q3 ?_ _)); exact BK343.out) hb)
                        have n2_ := A0 (blk_below (by (with_reducible repeat (first | refine q1 ?_ _ | refine q2 ?_ | refine q3 ?_ _)); exact BK356.out) hb)
                        have n3_ := A0 (blk_below (by (with_reducible repeat (first | refine q1 ?_ _ | refine q2 ?_ | refine q3 ?_ _)); exact BK394.out) hb)
                        have n4_ := A0 (below_step (by repeat (first | (with_reducible first | exact HB.out | apply b1 | apply b2 | apply b3 | refine below_set ?_ GE330.out | refine below_set ?_ GE343.out | refine below_set ?_ GE356.out | refine below_set ?_ GE394.out) | exact HB.out)) hb)
                        clear BK330 BK343 BK356 BK394 HB
                        have BK330 := n0_
                        have BK343 := n1_
                        have BK356 := n2_
                        have BK394 := n3_
                        have HB := n4_
                        clear n0_ n1_ n2_ n3_ n4_
                        (try clear hb); (try clear hb2); (try clear hk); (try clear hi)
                        refine hK.out _ _ ⟨(blk_cell BK343.out 0).trans rfl, (blk_cell BK343.out 1).trans rfl, (blk_cell BK343.out 2).trans rfl, (blk_cell BK343.out 3).trans rfl, (blk_cell BK343.out 4).trans rfl, (blk_cell BK343.out 5).trans rfl, (blk_cell BK343.out 6).trans rfl, (blk_cell BK343.out 7).trans rfl, (blk_cell BK343.out 8).trans rfl, (blk_cell BK343.out 9).trans rfl, (blk_cell BK343.out 10).trans rfl, (blk_cell BK330.out 0).trans rfl, (blk_cell BK330.out 1).trans rfl, (blk_cell BK330.out 2).trans rfl, (blk_cell BK330.out 3).trans rfl, (blk_cell BK330.out 4).trans rfl, (blk_cell BK330.out 5).trans rfl, (blk_cell BK330.out 6).trans rfl, (blk_cell BK330.out 7).trans rfl, (blk_cell BK330.out 8).trans rfl, (blk_cell BK330.out 9).trans rfl, (blk_cell BK330.out 10).trans rfl⟩ (fun hHeld => ?_)
                        clear hK K
                        refine norm_ (a' := ?_) ?_ ?_
                        rotate_left
                        · show Act.put _ (some 131) _ = _
                          simp only [Act.put, List.setIfInBounds_toArray, List.set_cons_zero, List.set_cons_succ, i64_w, i32_w]
                          rfl
                        refine pure_ (i := 34) (N := some 132) (v := ?_) (a' := ?_) #[true, true, true, true, true, true, true, true, true, true, true, true, true, true, true, true, true, true, true, true, true, true, true, true, true, true, true, true, true, true, true, true, true, true, true, false, false] rfl rfl (any_of HT_.out (by kernel_rfl)) (fun _ _ _ h => h) (Or.inl ⟨by rfl, ?_⟩) ?_ ?_
                        rotate_left
                        · intro w'
                          go_simp
                          with_reducible rfl
                        rotate_left
                        · simp only [Act.put, List.setIfInBounds_toArray, List.set_cons_zero, List.set_cons_succ, i64_w, i32_w]
                          rfl
                        refine pure_ (i := 35) (N := some 133) (v := ?_) (a' := ?_) #[true, true, true, true, true, true, true, true, true, true, true, true, true, true, true, true, true, true, true, true, true, true, true, true, true, true, true, true, true, true, true, true, true, true, true, true, false] rfl rfl (any_of HT_.out (by kernel_rfl)) (fun _ _ _ h => h) (Or.inl ⟨by rfl, ?_⟩) ?_ ?_
                        rotate_left
                        · intro w'
                          go_simp
                          with_reducible rfl
                        rotate_left
                        · simp only [Act.put, List.setIfInBounds_toArray, List.set_cons_zero, List.set_cons_succ, i64_w, i32_w]
                          rfl
                        refine pure_ (i := 36) (N := some 4) (v := ?_) (a' := ?_) #[true, true, true, true, true, true, true, true, true, true, true, true, true, true, true, true, true, true, true, true, true, true, true, true, true, true, true, true, true, true, true, true, true, true, true, true, true] rfl rfl (any_of HT_.out (by kernel_rfl)) (fun _ _ _ h => h) (Or.inl ⟨by rfl, ?_⟩) ?_ ?_
                        rotate_left
                        · intro w'
                          go_simp
                          with_reducible rfl
                        rotate_left
                        · simp only [Act.put, List.setIfInBounds_toArray, List.set_cons_zero, List.set_cons_succ, i64_w, i32_w]
                          rfl
                        refine done_ (done_of HT_.out (by kernel_rfl)) ?_
                        try go_wp2
                        go_ret
                        exact ⟨by first | rfl | (simp [errW_none, errW_some] <;> rfl) | (simp [*, errW_none, errW_some] <;> rfl), by repeat (first | (with_reducible first | exact HB.out | apply b1 | apply b2 | apply b3 | refine below_set ?_ GE330.out | refine below_set ?_ GE343.out | refine below_set ?_ GE356.out | refine below_set ?_ GE394.out) | exact HB.out)⟩
                      · rw [if_neg c187] at H
                        rw [hr0.out] at H
                        exact absurd H (by simp)
                    · rw [if_neg c183] at H
                      rw [hr0.out] at H
                      exact absurd H (by simp)
                  · rw [if_neg c179] at H
                    rw [hr0.out] at H
                    exact absurd H (by simp)
                · rw [if_neg c176] at H
                  rw [hr0.out] at H
                  exact absurd H (by simp)
  · replace c4 := Bool.eq_false_iff.mpr c4
    subst c4
    have H1 : (some false) = some r := by rw [if_neg (show ¬ (false = true) by decide)] at H; exact H
    rw [hr0.out] at H1
    exact absurd H1 (by simp)
end Go.Proofs.Ytblooffiggciiaa.PAll
/- PathF -/
namespace Go.Proofs.Ytblooffiggciiaa.Pl
open Go.RowKit Go.Proofs.Ytblooffiggciiaa.PAll Go.Proofs.YtblooffiggciiaaW.PrintWords Go.Proofs.YtblooffiggciiaaW.PrintLast Go.Proofs.YtblooffiggciiaaW.PrintMore
set_option linter.unusedVariables false
set_option linter.unusedSimpArgs false
section
variable (s d w : Int) (m : Bool) (z t c a er no se : Int)
theorem fails_j2 (k : Nat) : weftlinelaw13_PathFails.j2 (k + 2) s d w m z t c a er no se s d w m z t c a er no se = some true := by
  simp only [weftlinelaw13_PathFails.j2]
  rw [qgood, qrefgood, qactive, qrefactive, qheard, qrefheard]
  simp only [Option.bind_some, beq_self_eq_true, if_true, weftlinelaw13_Document.f, Bool.and_self]
  by_cases h : goodQ s d w m z t c a er no se
  · rw [qfailed h, qreffailed h, qmissed h, qrefmissed h]
    simp only [Option.bind_some, beq_self_eq_true, if_true, Bool.and_self]
  · obtain ⟨h1, h2, h3, h4⟩ := qbad h k
    rw [h1, h2, h3, h4]
    simp only [Option.bind_some, beq_self_eq_true, if_true, Bool.and_self]
theorem fails_j1_no (k : Nat) (x : Int) : weftlinelaw13_PathFails.j1 (k + 3) x (some 1) true s d w m z t c a er no se s d w m z t c a er no se 0 0 0 false 0 0 0 0 0 0 0 = some true := by
  simp only [weftlinelaw13_PathFails.j1, if_true, weftlinenum_Is.f, weftlinenum_Num.f]
  simp only [Option.isNone_some, Option.getD_some, Bool.false_eq_true, if_false, beq_self_eq_true, Bool.not_true, Bool.or_self, if_true]
  exact fails_j2 s d w m z t c a er no se k
theorem fails_j1_yes (k : Nat) (x : Int) : weftlinelaw13_PathFails.j1 (k + 3) x none false s d w m z t c a er no se s d w m z t c a er no se s d w m z t c x er no se = some true := by
  simp only [weftlinelaw13_PathFails.j1, if_true, Bool.false_eq_true, if_false, Option.isNone_none, beq_self_eq_true, Bool.not_true, Bool.or_self]
  exact fails_j2 s d w m z t c a er no se k
theorem fails_j0 (k : Nat) (x : Int) : weftlinelaw13_PathFails.j0 (k + 4) x s d w m z t c a er no se s d w m z t c a er no se = some true := by
  simp only [weftlinelaw13_PathFails.j0]
  rw [qrefgood, refaddr_eq]
  unfold path_Path_To.f
  rw [qgood, addr_eq]
  simp only [Option.bind_some]
  by_cases h : goodQ s d w m z t c a er no se
  · rw [decide_eq_true h]
    simp only [if_true, Option.bind_some]
    by_cases hx : addrP x
    · rw [decide_eq_true hx]
      simp only [if_true, Option.bind_some, Bool.not_true]
      exact fails_j1_yes s d w m z t c a er no se k x
    · rw [decide_eq_false hx]
      simp only [Bool.false_eq_true, if_false, Option.bind_some, Bool.not_false]
      exact fails_j1_no s d w m z t c a er no se k x
  · rw [decide_eq_false h]
    simp only [Bool.false_eq_true, if_false, Option.bind_some]
    exact fails_j1_no s d w m z t c a er no se k x
theorem fails (k : Nat) (x : Int) : weftlinelaw13_PathFails.f (k + 20) s d w m z t c a er no se x = some true := by
  unfold weftlinelaw13_PathFails.f
  rw [alive13]
  have h0 := fails_j0 s d w m z t c a er no se (k + 16) x
  simp only [Option.bind_some, if_true, weftlinelaw13_Program.f, path_New.f, addr_eq, refaddr_eq]
  by_cases hx : addrP x
  · rw [decide_eq_true hx]
    simp only [Option.bind_some, if_true, rto_First.f, cwnd_First.f, weftlineref13_New.f, weftlineref11_First.f, weftlineref12_First.f, weftlinelaw13_Document.f, Option.isNone_none, beq_self_eq_true, Bool.not_true, Bool.or_self, Bool.false_eq_true, if_false]
    exact h0
  · rw [decide_eq_false hx]
    simp only [Option.bind_some, Bool.false_eq_true, if_false, weftlinenum_Is.f, weftlinenum_Num.f, Option.isNone_some, Option.getD_some, beq_self_eq_true, Bool.not_true, Bool.or_self, if_true]
    exact h0

end
end Go.Proofs.Ytblooffiggciiaa.Pl
/- WkF -/
namespace Go.Proofs.Ytblooffiggciiaa.Wk
open Go.RowKit Go.Proofs.YtblooffiggciiaaW.PrintWords Go.Proofs.Ytblooffiggciiaa.PAll
set_option linter.unusedVariables false
theorem pathFails_walk (W : World) (a0_0_0 : Int) (a0_0_1 : Int) (a0_0_2 : Int) (a0_0_3 : Bool) (a0_1_0 : Int) (a0_1_1 : Int) (a0_1_2 : Int) (a0_2 : Int) (a0_3 : Int) (a0_4 : Int) (a0_5 : Int) (a1 : Int) (w0_0_0 : (Lit.int .i64 a0_0_0).wf = true) (w0_0_1 : (Lit.int .i64 a0_0_1).wf = true) (w0_0_2 : (Lit.int .i64 a0_0_2).wf = true) (w0_1_0 : (Lit.int .i64 a0_1_0).wf = true) (w0_1_1 : (Lit.int .i64 a0_1_1).wf = true) (w0_1_2 : (Lit.int .i64 a0_1_2).wf = true) (w0_2 : (Lit.int .i64 a0_2).wf = true) (w0_3 : (Lit.int .i64 a0_3).wf = true) (w0_4 : (Lit.int .u32 a0_4).wf = true) (w0_5 : (Lit.int .i64 a0_5).wf = true) (w1 : (Lit.int .i64 a1).wf = true) :
    Calls Try.prog 3 #[.agg #[.int .i64 a0_0_0, .int .i64 a0_0_1, .int .i64 a0_0_2, .bool a0_0_3, .int .i64 a0_1_0, .int .i64 a0_1_1, .int .i64 a0_1_2, .int .i64 a0_2, .int .i64 a0_3, .int .u32 a0_4, .int .i64 a0_5], .int .i64 a1] W fun e w' => e = .returned (.bool true) ∧ Below W.heap.size W w' :=
  weftlinelaw13_PathFails.calls_t 20 a0_0_0 a0_0_1 a0_0_2 a0_0_3 a0_1_0 a0_1_1 a0_1_2 a0_2 a0_3 a0_4 a0_5 a1 true W (Aside0.mk rfl) (Pl.fails _ _ _ _ _ _ _ _ _ _ _ 0 _)
end Go.Proofs.Ytblooffiggciiaa.Wk
/- Opn -/
namespace Go.Proofs.Ytblooffiggciiaa.Opn
open Go.RowKit Go.Deep Go.WideShapes Go.ChangeShapes Go.Proofs.YtblooffiggciiaaW.PrintWords
set_option linter.unusedVariables false
/-- What reads at type T is told by the kind d, and fits wf. -/
def Opn (P : Program) (w : World) (T : TypeId) {α : Type} (d : Kd α) (wf : α → Prop) : Prop :=
  ∀ {H : Type} {enc : TypeId × Value → H} {base : Nat} {spare : Nat → Bool} {held : Bool} {fuel : Nat} {cs : List Value} {y : DataW H × List MemPlace},
    DataW.trod enc P w base spare held fuel T cs = some y → ∃ x, d.K w x cs ∧ wf x

section
variable {P : Program} {w : World} {T e : TypeId} {α β : Type}
theorem int {k : IntKind} (hu : P.underlying T = some (.int k)) : Opn P w T (Kd.int k) (fun x => (Lit.int k x).wf = true) := by
  intro H enc base spare held fuel cs y h
  obtain ⟨n, rfl, _, wn⟩ := DataW.trod_int hu h
  exact ⟨n, rfl, wn⟩
theorem bool (hu : P.underlying T = some .bool) : Opn P w T Kd.bool (fun _ => True) := by
  intro H enc base spare held fuel cs y h
  obtain ⟨n, rfl, _⟩ := DataW.trod_bool hu h
  exact ⟨n, rfl, trivial⟩
/-- A part of cells. -/
def At (w : World) (d : Kd α) (wf : α → Prop) (cs : List Value) : Prop := ∃ x, d.K w x cs ∧ wf x
theorem at_field {d : Kd α} {wf : α → Prop} {H : Type} {enc : TypeId × Value → H} {base : Nat} {spare : Nat → Bool} {held : Bool} {n i o s : Nat} {f : Field} {cs : List Value} {xs : List (DataW H × List MemPlace)}
    (h : DataW.trod enc P w base spare held n f.type ((cs.drop f.offset).take (P.cellsOf f.type)) = xs[i]?) (ho : f.offset = o) (ht : f.type = T) (hs : P.cellsOf T = s) (hi : i < xs.length) (he : Opn P w T d wf) : At w d wf ((cs.drop o).take s) := by
  subst ho; subst ht; subst hs
  rw [List.getElem?_eq_getElem hi] at h
  exact he h
theorem at_pair {a : Kd α} {b : Kd β} {wa : α → Prop} {wb : β → Prop} {cs : List Value} {o s t : Nat} (ha : At w a wa ((cs.drop o).take s)) (hb : At w b wb ((cs.drop (o + s)).take t)) :
    At w (Kd.pair a b) (fun x => wa x.1 ∧ wb x.2) ((cs.drop o).take (s + t)) := by
  obtain ⟨x, hx, w1⟩ := ha
  obtain ⟨y, hy, w2⟩ := hb
  refine ⟨(x, y), ⟨_, _, ?_, hx, hy⟩, w1, w2⟩
  rw [List.take_add, List.drop_drop]
theorem of_at {d : Kd α} {wf : α → Prop} {cs : List Value} {n : Nat} (h : At w d wf ((cs.drop 0).take n)) (hl : cs.length = n) : ∃ x, d.K w x cs ∧ wf x := by
  rw [List.drop_zero, List.take_of_length_le (by omega)] at h
  exact h
end
end Go.Proofs.Ytblooffiggciiaa.Opn
/- RowPathFails -/
namespace Go.Proofs.Ytblooffiggciiaa.pathFails
open Go.ChangeShapes Go.WideShapes Go.ChangeAt Go.RowKit Go.Proofs.YtblooffiggciiaaW.PrintWords
open Go.ChangeMaps (open_string shut_string)
set_option linter.unusedVariables false
theorem own : ownKnob Try.prog.godebug = none := by kernel_rfl
theorem laidOut : laidOutB Try.prog = true := by kernel_rfl
theorem cells27 : Try.prog.cellsOf 27 = 1 := by kernel_rfl
theorem cells26 : Try.prog.cellsOf 26 = 1 := by kernel_rfl
theorem cells25 : Try.prog.cellsOf 25 = 3 := by kernel_rfl
theorem cells23 : Try.prog.cellsOf 23 = 4 := by kernel_rfl
theorem cells4 : Try.prog.cellsOf 4 = 1 := by kernel_rfl
theorem cells3 : Try.prog.cellsOf 3 = 1 := by kernel_rfl
theorem opn23 {W : World} : Opn.Opn Try.prog W 23 (Kd.pair (Kd.int .i64) (Kd.pair (Kd.int .i64) (Kd.pair (Kd.int .i64) Kd.bool))) (fun x => ((Lit.int .i64 x.1).wf = true ∧ (Lit.int .i64 x.2.1).wf = true ∧ (Lit.int .i64 x.2.2.1).wf = true ∧ True)) := by
  intro H enc base spare held fuel cs y h
  obtain ⟨xs, n, _, rfl, hl, hlen, hf⟩ := DataW.trod_struct Try.underlying23 h
  have g0 : Opn.At W (Kd.int .i64) (fun x => (Lit.int .i64 x).wf = true) ((cs.drop 0).take 1) := Opn.at_field (hf 0 _ rfl) rfl rfl cells3 (by rw [hlen]; decide) (Opn.int Try.underlying3)
  have g1 : Opn.At W (Kd.int .i64) (fun x => (Lit.int .i64 x).wf = true) ((cs.drop 1).take 1) := Opn.at_field (hf 1 _ rfl) rfl rfl cells3 (by rw [hlen]; decide) (Opn.int Try.underlying3)
  have g2 : Opn.At W (Kd.int .i64) (fun x => (Lit.int .i64 x).wf = true) ((cs.drop 2).take 1) := Opn.at_field (hf 2 _ rfl) rfl rfl cells3 (by rw [hlen]; decide) (Opn.int Try.underlying3)
  have g3 : Opn.At W Kd.bool (fun x => True) ((cs.drop 3).take 1) := Opn.at_field (hf 3 _ rfl) rfl rfl cells4 (by rw [hlen]; decide) (Opn.bool Try.underlying4)
  obtain ⟨x, hk, hw⟩ := Opn.of_at (Opn.at_pair g0 (Opn.at_pair g1 (Opn.at_pair g2 g3))) (hl.trans (by kernel_rfl))
  exact ⟨x, hk, hw⟩
theorem opn25 {W : World} : Opn.Opn Try.prog W 25 (Kd.pair (Kd.int .i64) (Kd.pair (Kd.int .i64) (Kd.int .i64))) (fun x => ((Lit.int .i64 x.1).wf = true ∧ (Lit.int .i64 x.2.1).wf = true ∧ (Lit.int .i64 x.2.2).wf = true)) := by
  intro H enc base spare held fuel cs y h
  obtain ⟨xs, n, _, rfl, hl, hlen, hf⟩ := DataW.trod_struct Try.underlying25 h
  have g0 : Opn.At W (Kd.int .i64) (fun x => (Lit.int .i64 x).wf = true) ((cs.drop 0).take 1) := Opn.at_field (hf 0 _ rfl) rfl rfl cells3 (by rw [hlen]; decide) (Opn.int Try.underlying3)
  have g1 : Opn.At W (Kd.int .i64) (fun x => (Lit.int .i64 x).wf = true) ((cs.drop 1).take 1) := Opn.at_field (hf 1 _ rfl) rfl rfl cells3 (by rw [hlen]; decide) (Opn.int Try.underlying3)
  have g2 : Opn.At W (Kd.int .i64) (fun x => (Lit.int .i64 x).wf = true) ((cs.drop 2).take 1) := Opn.at_field (hf 2 _ rfl) rfl rfl cells3 (by rw [hlen]; decide) (Opn.int Try.underlying3)
  obtain ⟨x, hk, hw⟩ := Opn.of_at (Opn.at_pair g0 (Opn.at_pair g1 g2)) (hl.trans (by kernel_rfl))
  exact ⟨x, hk, hw⟩
theorem opn29 {W : World} : Opn.Opn Try.prog W 29 (Kd.pair (Kd.pair (Kd.int .i64) (Kd.pair (Kd.int .i64) (Kd.pair (Kd.int .i64) Kd.bool))) (Kd.pair (Kd.pair (Kd.int .i64) (Kd.pair (Kd.int .i64) (Kd.int .i64))) (Kd.pair (Kd.int .i64) (Kd.pair (Kd.int .i64) (Kd.pair (Kd.int .u32) (Kd.int .i64)))))) (fun x => (((Lit.int .i64 x.1.1).wf = true ∧ (Lit.int .i64 x.1.2.1).wf = true ∧ (Lit.int .i64 x.1.2.2.1).wf = true ∧ True) ∧ ((Lit.int .i64 x.2.1.1).wf = true ∧ (Lit.int .i64 x.2.1.2.1).wf = true ∧ (Lit.int .i64 x.2.1.2.2).wf = true) ∧ (Lit.int .i64 x.2.2.1).wf = true ∧ (Lit.int .i64 x.2.2.2.1).wf = true ∧ (Lit.int .u32 x.2.2.2.2.1).wf = true ∧ (Lit.int .i64 x.2.2.2.2.2).wf = true)) := by
  intro H enc base spare held fuel cs y h
  obtain ⟨xs, n, _, rfl, hl, hlen, hf⟩ := DataW.trod_struct Try.underlying29 h
  have g0 : Opn.At W (Kd.pair (Kd.int .i64) (Kd.pair (Kd.int .i64) (Kd.pair (Kd.int .i64) Kd.bool))) (fun x => ((Lit.int .i64 x.1).wf = true ∧ (Lit.int .i64 x.2.1).wf = true ∧ (Lit.int .i64 x.2.2.1).wf = true ∧ True)) ((cs.drop 0).take 4) := Opn.at_field (hf 0 _ rfl) rfl rfl cells23 (by rw [hlen]; decide) opn23
  have g1 : Opn.At W (Kd.pair (Kd.int .i64) (Kd.pair (Kd.int .i64) (Kd.int .i64))) (fun x => ((Lit.int .i64 x.1).wf = true ∧ (Lit.int .i64 x.2.1).wf = true ∧ (Lit.int .i64 x.2.2).wf = true)) ((cs.drop 4).take 3) := Opn.at_field (hf 1 _ rfl) rfl rfl cells25 (by rw [hlen]; decide) opn25
  have g2 : Opn.At W (Kd.int .i64) (fun x => (Lit.int .i64 x).wf = true) ((cs.drop 7).take 1) := Opn.at_field (hf 2 _ rfl) rfl rfl cells26 (by rw [hlen]; decide) (Opn.int Try.underlying26)
  have g3 : Opn.At W (Kd.int .i64) (fun x => (Lit.int .i64 x).wf = true) ((cs.drop 8).take 1) := Opn.at_field (hf 3 _ rfl) rfl rfl cells3 (by rw [hlen]; decide) (Opn.int Try.underlying3)
  have g4 : Opn.At W (Kd.int .u32) (fun x => (Lit.int .u32 x).wf = true) ((cs.drop 9).take 1) := Opn.at_field (hf 4 _ rfl) rfl rfl cells27 (by rw [hlen]; decide) (Opn.int Try.underlying27)
  have g5 : Opn.At W (Kd.int .i64) (fun x => (Lit.int .i64 x).wf = true) ((cs.drop 10).take 1) := Opn.at_field (hf 5 _ rfl) rfl rfl cells3 (by rw [hlen]; decide) (Opn.int Try.underlying3)
  obtain ⟨x, hk, hw⟩ := Opn.of_at (Opn.at_pair g0 (Opn.at_pair g1 (Opn.at_pair g2 (Opn.at_pair g3 (Opn.at_pair g4 g5))))) (hl.trans (by kernel_rfl))
  exact ⟨x, hk, hw⟩
set_option maxRecDepth 100000 in
theorem lifted (os : Os) (started : os.Started) (H : Type) (enc : TypeId × Value → H) :
    ReturnsInHanded {} Try.checked os 3 .any (Rows.pathFailsSpec.pre6 enc Try.prog Try.f3 Rows.pathFailsRow.domain false) (Rows.pathFailsSpec.post enc Try.prog Try.f3 false true false false) := by
  refine returnsInHanded_of_change_sized (C := Try.checked) own started (by kernel_rfl) Try.func3
    (ChangeSpec.witness6 (enc := enc) (C := Try.checked) false ⟨#[], #[.agg #[.int .i64 0, .int .i64 0, .int .i64 0, .bool false, .int .i64 0, .int .i64 0, .int .i64 0, .int .i64 0, .int .i64 0, .int .u32 0, .int .i64 0], .int .i64 0], []⟩ 8 (by kernel_rfl) (by kernel_rfl) (by kernel_rfl) (by kernel_rfl)) ?_
  intro W base args ds gs before hval0 hW hcnd hsz0 _
  have hval : ∀ (j : Nat) t v, Try.f3.params[j]? = some t → args[j]? = some v → Value.okWide Try.prog W .any base t v := hval0
  have hW' := hW
  obtain ⟨p, q, hA0, hV, rfl, hfz, hnd⟩ := hW
  have hA : DataW.TrodAll enc Try.prog W 0 (fun _ => true) true Try.f3.params.toList args.toList ds p := hA0
  rw [Try.params3] at hA hval
  obtain ⟨v0, vs0, d0, ds0, p0, q0, hargs, rfl, rfl, h0, r0⟩ := trodAll_cons hA
  obtain ⟨v1, vs1, d1, ds1, p1, q1, rfl, rfl, rfl, h1, r1⟩ := trodAll_cons r0
  obtain ⟨rfl, rfl, rfl⟩ := trodAll_nil r1
  obtain rfl : args = #[v0, v1] := by cases args; simp_all
  obtain ⟨rfl, rfl⟩ := trodVars_none hV
  have kk0 := h0
  have lt0 : ∀ x ∈ p0, x.block < W.heap.size := by obtain ⟨m, hm⟩ := kk0; exact DataW.trod_lt m _ _ _ hm
  obtain ⟨fu0, hf0⟩ := h0
  obtain ⟨cs0, rfl, _⟩ := okWide_struct Try.underlying29 (hval 0 29 v0 rfl rfl)
  obtain ⟨xx0, hk0, ww0⟩ := opn29 hf0
  obtain ⟨⟨a0_0_0, a0_0_1, a0_0_2, a0_0_3⟩, ⟨a0_1_0, a0_1_1, a0_1_2⟩, a0_2, a0_3, a0_4, a0_5⟩ := xx0
  obtain ⟨z0, hz0⟩ : ∃ z, z = (Value.agg cs0).cells.toList := ⟨_, rfl⟩
  rw [← hz0] at hk0
  obtain ⟨_, _, rfl, ⟨_, _, rfl, rfl, ⟨_, _, rfl, rfl, ⟨_, _, rfl, rfl, rfl⟩⟩⟩, ⟨_, _, rfl, ⟨_, _, rfl, rfl, ⟨_, _, rfl, rfl, rfl⟩⟩, ⟨_, _, rfl, rfl, ⟨_, _, rfl, rfl, ⟨_, _, rfl, rfl, rfl⟩⟩⟩⟩⟩ := hk0
  simp only [Value.cells, List.cons_append, List.nil_append] at hz0
  obtain rfl : cs0 = #[.int .i64 a0_0_0, .int .i64 a0_0_1, .int .i64 a0_0_2, .bool a0_0_3, .int .i64 a0_1_0, .int .i64 a0_1_1, .int .i64 a0_1_2, .int .i64 a0_2, .int .i64 a0_3, .int .u32 a0_4, .int .i64 a0_5] := by rw [← Array.toArray_toList (xs := cs0), ← hz0]
  obtain ⟨⟨w0_0_0, w0_0_1, w0_0_2, _⟩, ⟨w0_1_0, w0_1_1, w0_1_2⟩, w0_2, w0_3, w0_4, w0_5⟩ := ww0
  have kk1 := h1
  have lt1 : ∀ x ∈ p1, x.block < W.heap.size := by obtain ⟨m, hm⟩ := kk1; exact DataW.trod_lt m _ _ _ hm
  obtain ⟨a1, rfl, rfl, rfl, w1⟩ := open_int Try.underlying26 (hval 1 26 v1 rfl rfl) h1
  clear hA0 hval0 hsz0
  refine (Wk.pathFails_walk W _ _ _ _ _ _ _ _ _ _ _ a1 w0_0_0 w0_0_1 w0_0_2 w0_1_0 w0_1_1 w0_1_2 w0_2 w0_3 w0_4 w0_5 w1).mono fun e W' ⟨he, bel⟩ => ?_
  subst he
  exact ⟨_, rfl, _, _, _, [], _, [], hW', trodAll_mk1 (shut_bool Try.underlying4 _), (trodAll_cons_mk (Below.trod laidOut (by kernel_rfl) (of_decide_eq_true (by kernel_rfl)) kk0 bel lt0) (trodAll_cons_mk (Below.trod laidOut (by kernel_rfl) (of_decide_eq_true (by kernel_rfl)) kk1 bel lt1) trodAll_mk0)), rfl, bel.frame _, fun h => by cases h⟩
theorem over : Rows.pathFailsRow.holds Try.pinned (OpenSpec.ofChange Rows.pathFailsSpec) :=
  OpenClaim.holds_of_wide 3 Try.f3 rfl rfl rfl rfl rfl rfl rfl ⟨rfl, rfl, rfl, rfl, rfl⟩ rfl rfl rfl rfl rfl (by kernel_rfl) Try.func3 (by kernel_rfl)
    (of_decide_eq_true (by kernel_rfl)) (by unfold Func.isWrapper; first | (rw [if_pos (by decide +kernel)]; kernel_rfl) | (rw [if_neg (by decide +kernel)]; exact ⟨rfl, rfl⟩))
    (fun os started H enc _ => lifted os started H enc)
end Go.Proofs.Ytblooffiggciiaa.pathFails
namespace Go.Proofs.Ytblooffiggciiaa
/-- The row, under a short name, for the claim. -/
theorem pathFails_holds : Rows.PathFailsSaid := pathFails.over
#print axioms pathFails_holds
end Go.Proofs.Ytblooffiggciiaa
