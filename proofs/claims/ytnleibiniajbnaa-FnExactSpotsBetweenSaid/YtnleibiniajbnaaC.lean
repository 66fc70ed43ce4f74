/- The compiled code of the functions, by the theory of the texts Ab; the table of all. -/
import Derived.Test.YtnleibiniajbnaaRows
import Derived.Test.YtnleibiniajbnaaAbD
import Derived.Test.YtnleibiniajbnaaSxC
set_option linter.unusedVariables false
set_option linter.unusedSimpArgs false
namespace Go.Proofs.Ytnleibiniajbnaa
open Go.Ab
def oP (d : Nat) (op : AOp) : AOper := ⟨some d, op, none⟩
def mP (d i : Nat) : AOper := ⟨some d, .move (.tmp i), none⟩
def tP (i : Nat) : Opd := .tmp i





def c_laws_FnExactSpotsBetween : AFun := ⟨74, [.tmp 4], .seq (.run [oP 2 (.box (tP 0)), oP 3 (.box (tP 1)), oP 4 (.move (.const (.bool false)))]) (.seq (.mix (.node [oP 14 (.load true 2 (tP 2)), oP 16 (.load true 2 (tP 3))] (.cons false (oP 15 (.call 25 [.tmp 14])) (.node [] (.cons false (oP 17 (.call 25 [.tmp 16])) (.node [] (.cons false (oP 18 (.call 24 [.tmp 15, .tmp 17])) (.node [mP 13 18, oP 19 (.extract 0 (tP 13)), oP 20 (.extract 1 (tP 13)), mP 5 19, mP 6 20] .nil) .nil)) .nil)) .nil))) (.seq (.mix (.node [oP 22 (.load true 2 (tP 2)), oP 24 (.load true 2 (tP 3))] (.cons false (oP 23 (.call 25 [.tmp 22])) (.node [] (.cons false (oP 25 (.call 25 [.tmp 24])) (.node [] (.cons false (oP 26 (.call 26 [.tmp 23, .tmp 25])) (.node [mP 21 26, oP 27 (.extract 0 (tP 21)), oP 28 (.extract 1 (tP 21)), mP 7 27, mP 8 28] .nil) .nil)) .nil)) .nil))) (.seq (.seq (.run [mP 29 7, mP 30 5, oP 31 (.call 27 [.tmp 29, .tmp 30]), oP 32 (.un .not (tP 31)), mP 33 32, ⟨some 34, .move (tP 8), some (33, false)⟩, ⟨some 35, .move (tP 6), some (33, false)⟩, ⟨some 36, .bin .neq (tP 34) (tP 35), some (33, false)⟩, oP 37 (.pick (tP 33) (.const (.bool true)) (tP 36))]) (.cond (tP 37) (.seq (.run [oP 4 (.move (.const (.bool false)))]) (.ret)) (.skip))) (.seq (.run [oP 9 (.move (.const (.int .i64 1)))]) (.seq (.run [mP 38 7, mP 39 9, oP 40 (.call 28 [.tmp 38, .tmp 39]), mP 9 40]) (.seq (.run [oP 10 (.move (.const (.int .i64 1)))]) (.seq (.run [mP 41 7, mP 42 10, oP 43 (.call 29 [.tmp 41, .tmp 42]), mP 10 43]) (.seq (.seq (.run [mP 44 10, oP 45 (.bin .lss (tP 44) (.const (.int .i64 0)))]) (.cond (tP 45) (.seq (.run [oP 4 (.move (.const (.bool false)))]) (.ret)) (.skip))) (.seq (.seq (.run [mP 46 10, mP 47 9, oP 48 (.bin .neq (tP 46) (tP 47))]) (.cond (tP 48) (.seq (.run [oP 4 (.move (.const (.bool false)))]) (.ret)) (.skip))) (.seq (.mix (.node [oP 50 (.load true 2 (tP 2)), oP 52 (.load true 2 (tP 3))] (.cons false (oP 51 (.call 25 [.tmp 50])) (.node [] (.cons false (oP 53 (.call 25 [.tmp 52])) (.node [] (.cons false (oP 54 (.call 26 [.tmp 51, .tmp 53])) (.node [mP 49 54, oP 55 (.extract 0 (tP 49)), oP 56 (.extract 1 (tP 49)), mP 11 55, mP 12 56] .nil) .nil)) .nil)) .nil))) (.seq (.seq (.run [mP 57 11, mP 58 5, oP 59 (.call 27 [.tmp 57, .tmp 58]), oP 60 (.un .not (tP 59)), mP 61 60, ⟨some 62, .move (tP 12), some (61, false)⟩, ⟨some 63, .move (tP 6), some (61, false)⟩, ⟨some 64, .bin .neq (tP 62) (tP 63), some (61, false)⟩, oP 65 (.pick (tP 61) (.const (.bool true)) (tP 64))]) (.cond (tP 65) (.seq (.run [oP 4 (.move (.const (.bool false)))]) (.ret)) (.skip))) (.seq (.run [oP 10 (.move (.const (.int .i64 1)))]) (.seq (.run [mP 66 7, mP 67 10, oP 68 (.call 29 [.tmp 66, .tmp 67]), mP 10 68]) (.seq (.seq (.run [mP 69 10, oP 70 (.bin .lss (tP 69) (.const (.int .i64 0)))]) (.cond (tP 70) (.seq (.run [oP 4 (.move (.const (.bool false)))]) (.ret)) (.skip))) (.seq (.seq (.run [mP 71 10, mP 72 9, oP 73 (.bin .neq (tP 71) (tP 72))]) (.cond (tP 73) (.seq (.run [oP 4 (.move (.const (.bool false)))]) (.ret)) (.skip))) (.seq (.run [oP 4 (.move (.const (.bool true)))]) (.ret)))))))))))))))))⟩
theorem h_laws_FnExactSpotsBetween : cFun Try.prog 6 = some c_laws_FnExactSpotsBetween := by kernel_rfl


















def c_spec_SpotsBetween : AFun := ⟨29, [.tmp 4, .tmp 5], .seq (.run [oP 2 (.box (tP 0)), oP 3 (.box (tP 1)), oP 4 (.move (.const (.nilslice))), oP 5 (.move (.const (.int .i64 0)))]) (.seq (.seq (.run [oP 6 (.move (.const (.int .i64 0)))]) (.block 0 (.loop (.seq (.seq (.run [mP 7 6, oP 8 (.bin .lss (tP 7) (.const (.int .i64 2)))]) (.cond (tP 8) (.skip) (.exit 0))) (.seq (.block 1 (.seq (.run [mP 11 6, oP 12 (.iaArr 2 1 (tP 2) (tP 11)), oP 13 (.load false 1 (tP 12)), oP 14 (.conv (.ii .i64) (tP 13)), oP 15 (.call 70 [.tmp 14, .const (.int .i64 0), .const (.int .i64 23)]), oP 16 (.un .not (tP 15)), mP 17 16, ⟨some 18, .move (tP 6), some (17, false)⟩, ⟨some 19, .iaArr 2 1 (tP 3) (tP 18), some (17, false)⟩, ⟨some 20, .load false 1 (tP 19), some (17, false)⟩, ⟨some 21, .conv (.ii .i64) (tP 20), some (17, false)⟩, ⟨some 22, .call 70 [.tmp 21, .const (.int .i64 0), .const (.int .i64 23)], some (17, false)⟩, ⟨some 23, .un .not (tP 22), some (17, false)⟩, oP 24 (.pick (tP 17) (.const (.bool true)) (tP 23))]) (.cond (tP 24) (.seq (.run [oP 25 (.bslice 2 0 [] []), mP 4 25, oP 5 (.move (.const (.int .i64 2)))]) (.ret)) (.skip)))) (.run [mP 9 6, oP 10 (.bin .add (tP 9) (.const (.int .i64 1))), mP 6 10])))))) (.seq (.run [oP 26 (.load true 2 (tP 2)), oP 27 (.load true 2 (tP 3)), oP 28 (.call 73 [.tmp 26, .tmp 27]), mP 4 28, oP 5 (.move (.const (.int .i64 0)))]) (.ret)))⟩
theorem h_spec_SpotsBetween : cFun Try.prog 24 = some c_spec_SpotsBetween := by kernel_rfl

def c_laws_toSpot : AFun := ⟨15, [.cell 2 true 2], .seq (.run [oP 1 (.box (tP 0)), oP 2 (.alloc [.int .i16 0, .int .i16 0])]) (.seq (.run [oP 3 (.alloc [.int .i16 0, .int .i16 0])]) (.seq (.seq (.run [oP 4 (.move (.const (.int .i64 0)))]) (.block 0 (.loop (.seq (.seq (.run [mP 5 4, oP 6 (.bin .lss (tP 5) (.const (.int .i64 2)))]) (.cond (tP 6) (.skip) (.exit 0))) (.seq (.block 1 (.run [mP 9 4, mP 10 4, oP 11 (.iaArr 2 1 (tP 1) (tP 10)), oP 12 (.load false 1 (tP 11)), oP 13 (.iaArr 2 1 (tP 3) (tP 9)), ⟨none, .store 1 (tP 13) (tP 12), none⟩])) (.run [mP 7 4, oP 8 (.bin .add (tP 7) (.const (.int .i64 1))), mP 4 8])))))) (.seq (.run [oP 14 (.load true 2 (tP 3)), ⟨none, .store 2 (tP 2) (tP 14), none⟩]) (.ret))))⟩
theorem h_laws_toSpot : cFun Try.prog 25 = some c_laws_toSpot := by kernel_rfl

def c_impl_SpotsBetween : AFun := ⟨30, [.tmp 4, .tmp 5], .seq (.run [oP 2 (.box (tP 0)), oP 3 (.box (tP 1)), oP 4 (.move (.const (.nilslice))), oP 5 (.move (.const (.int .i64 0)))]) (.seq (.seq (.run [oP 8 (.iaArr 2 1 (tP 2) (.const (.int .i64 0))), oP 9 (.load false 1 (tP 8)), oP 10 (.iaArr 2 1 (tP 2) (.const (.int .i64 1))), oP 11 (.load false 1 (tP 10)), oP 12 (.iaArr 2 1 (tP 3) (.const (.int .i64 0))), oP 13 (.load false 1 (tP 12)), oP 14 (.iaArr 2 1 (tP 3) (.const (.int .i64 1))), oP 15 (.load false 1 (tP 14)), oP 16 (.bslice 1 4 [.int .i16 0, .int .i16 0, .int .i16 0, .int .i16 0] [(0, 1, .tmp 9), (1, 1, .tmp 11), (2, 1, .tmp 13), (3, 1, .tmp 15)]), oP 17 (.len (tP 16)), oP 18 (.move (.const (.int .i64 0)))]) (.block 0 (.loop (.seq (.run [oP 19 (.bin .lss (tP 18) (tP 17))]) (.seq (.cond (tP 19) (.skip) (.exit 0)) (.seq (.block 1 (.seq (.run [oP 20 (.iaSl 1 (tP 16) (tP 18)), oP 21 (.load false 1 (tP 20)), mP 7 21]) (.seq (.run [mP 22 7, oP 23 (.conv (.ii .i64) (tP 22)), oP 24 (.call 69 [.tmp 23, .const (.int .i64 0), .const (.int .i64 23)]), oP 25 (.un .not (tP 24))]) (.cond (tP 25) (.seq (.run [oP 4 (.move (.const (.nilslice))), oP 5 (.move (.const (.int .i64 2)))]) (.ret)) (.skip))))) (.run [oP 26 (.bin .add (tP 18) (.const (.int .i64 1))), mP 18 26]))))))) (.seq (.run [oP 27 (.load true 2 (tP 2)), oP 28 (.load true 2 (tP 3)), oP 29 (.call 74 [.tmp 27, .tmp 28]), mP 4 29, oP 5 (.move (.const (.int .i64 0)))]) (.ret)))⟩
theorem h_impl_SpotsBetween : cFun Try.prog 26 = some c_impl_SpotsBetween := by kernel_rfl

def c_laws_eqSpotS : AFun := ⟨27, [.tmp 4], .seq (.run [oP 4 (.move (.const (.bool false)))]) (.seq (.seq (.run [mP 6 0, oP 7 (.len (tP 6)), mP 8 1, oP 9 (.len (tP 8)), oP 10 (.bin .neq (tP 7) (tP 9))]) (.cond (tP 10) (.seq (.run [oP 4 (.move (.const (.bool false)))]) (.ret)) (.skip))) (.seq (.seq (.run [oP 5 (.move (.const (.int .i64 0)))]) (.block 0 (.loop (.seq (.seq (.run [mP 11 5, mP 12 0, oP 13 (.len (tP 12)), oP 14 (.bin .lss (tP 11) (tP 13))]) (.cond (tP 14) (.skip) (.exit 0))) (.seq (.block 1 (.seq (.mix (.node [mP 17 0, mP 18 5, oP 19 (.iaSl 2 (tP 17) (tP 18)), oP 20 (.load true 2 (tP 19)), mP 21 1, mP 22 5, oP 23 (.iaSl 2 (tP 21) (tP 22)), oP 24 (.load true 2 (tP 23))] (.cons true (oP 25 (.call 75 [.tmp 20, .tmp 24])) (.node [oP 26 (.un .not (tP 25))] .nil) .nil))) (.cond (tP 26) (.seq (.run [oP 4 (.move (.const (.bool false)))]) (.ret)) (.skip)))) (.run [mP 15 5, oP 16 (.bin .add (tP 15) (.const (.int .i64 1))), mP 5 16])))))) (.seq (.run [oP 4 (.move (.const (.bool true)))]) (.ret))))⟩
theorem h_laws_eqSpotS : cFun Try.prog 27 = some c_laws_eqSpotS := by kernel_rfl

def c_laws_markSpotS : AFun := ⟨27, [.tmp 4], .seq (.run [oP 4 (.move (.const (.int .i64 0)))]) (.seq (.seq (.run [oP 5 (.move (.const (.int .i64 0)))]) (.block 0 (.loop (.seq (.seq (.run [mP 7 5, mP 8 0, oP 9 (.len (tP 8)), oP 10 (.bin .lss (tP 7) (tP 9))]) (.cond (tP 10) (.skip) (.exit 0))) (.seq (.block 1 (.seq (.run [oP 6 (.move (.const (.int .i64 0)))]) (.block 2 (.loop (.seq (.seq (.run [mP 13 6, oP 14 (.bin .lss (tP 13) (.const (.int .i64 2)))]) (.cond (tP 14) (.skip) (.exit 2))) (.seq (.block 3 (.seq (.run [mP 17 0, mP 18 5, mP 19 6, mP 20 1, oP 21 (.conv (.ii .i16) (tP 20)), oP 22 (.iaSl 2 (tP 17) (tP 18)), oP 23 (.iaArr 2 1 (tP 22) (tP 19)), ⟨none, .store 1 (tP 23) (tP 21), none⟩]) (.run [mP 24 1, oP 25 (.bin .add (tP 24) (.const (.int .i64 1))), mP 1 25]))) (.run [mP 15 6, oP 16 (.bin .add (tP 15) (.const (.int .i64 1))), mP 6 16]))))))) (.run [mP 11 5, oP 12 (.bin .add (tP 11) (.const (.int .i64 1))), mP 5 12])))))) (.seq (.run [mP 26 1, mP 4 26]) (.ret)))⟩
theorem h_laws_markSpotS : cFun Try.prog 28 = some c_laws_markSpotS := by kernel_rfl

def c_laws_heldSpotS : AFun := ⟨29, [.tmp 4], .seq (.run [oP 4 (.move (.const (.int .i64 0)))]) (.seq (.seq (.run [oP 5 (.move (.const (.int .i64 0)))]) (.block 0 (.loop (.seq (.seq (.run [mP 7 5, mP 8 0, oP 9 (.len (tP 8)), oP 10 (.bin .lss (tP 7) (tP 9))]) (.cond (tP 10) (.skip) (.exit 0))) (.seq (.block 1 (.seq (.run [oP 6 (.move (.const (.int .i64 0)))]) (.block 2 (.loop (.seq (.seq (.run [mP 13 6, oP 14 (.bin .lss (tP 13) (.const (.int .i64 2)))]) (.cond (tP 14) (.skip) (.exit 2))) (.seq (.block 3 (.seq (.seq (.run [mP 17 0, mP 18 5, mP 19 6, oP 20 (.iaSl 2 (tP 17) (tP 18)), oP 21 (.iaArr 2 1 (tP 20) (tP 19)), oP 22 (.load false 1 (tP 21)), mP 23 1, oP 24 (.conv (.ii .i16) (tP 23)), oP 25 (.bin .neq (tP 22) (tP 24))]) (.cond (tP 25) (.seq (.run [oP 4 (.move (.const (.int .i64 (-1))))]) (.ret)) (.skip))) (.run [mP 26 1, oP 27 (.bin .add (tP 26) (.const (.int .i64 1))), mP 1 27]))) (.run [mP 15 6, oP 16 (.bin .add (tP 15) (.const (.int .i64 1))), mP 6 16]))))))) (.run [mP 11 5, oP 12 (.bin .add (tP 11) (.const (.int .i64 1))), mP 5 12])))))) (.seq (.run [mP 28 1, mP 4 28]) (.ret)))⟩
theorem h_laws_heldSpotS : cFun Try.prog 29 = some c_laws_heldSpotS := by kernel_rfl






































def c_impl_within : AFun := ⟨15, [.tmp 6], .seq (.run [oP 6 (.move (.const (.bool false)))]) (.seq (.run [mP 7 0, mP 8 1, oP 9 (.bin .geq (tP 7) (tP 8)), mP 10 9, ⟨some 11, .move (tP 0), some (10, true)⟩, ⟨some 12, .move (tP 2), some (10, true)⟩, ⟨some 13, .bin .leq (tP 11) (tP 12), some (10, true)⟩, oP 14 (.pick (tP 10) (tP 13) (.const (.bool false))), mP 6 14]) (.ret))⟩
theorem h_impl_within : cFun Try.prog 69 = some c_impl_within := by kernel_rfl

def c_spec_l00In : AFun := ⟨15, [.tmp 6], .seq (.run [oP 6 (.move (.const (.bool false)))]) (.seq (.run [mP 7 0, mP 8 1, oP 9 (.bin .geq (tP 7) (tP 8)), mP 10 9, ⟨some 11, .move (tP 0), some (10, true)⟩, ⟨some 12, .move (tP 2), some (10, true)⟩, ⟨some 13, .bin .leq (tP 11) (tP 12), some (10, true)⟩, oP 14 (.pick (tP 10) (tP 13) (.const (.bool false))), mP 6 14]) (.ret))⟩
theorem h_spec_l00In : cFun Try.prog 70 = some c_spec_l00In := by kernel_rfl



def c_spec_l07Line : AFun := ⟨80, [.tmp 4], .seq (.run [oP 2 (.box (tP 0)), oP 3 (.box (tP 1)), oP 4 (.move (.const (.nilslice)))]) (.seq (.run [oP 12 (.iaArr 2 1 (tP 3) (.const (.int .i64 0))), oP 13 (.load false 1 (tP 12)), oP 14 (.conv (.ii .i64) (tP 13)), oP 15 (.iaArr 2 1 (tP 2) (.const (.int .i64 0))), oP 16 (.load false 1 (tP 15)), oP 17 (.conv (.ii .i64) (tP 16)), oP 18 (.bin .sub (tP 14) (tP 17)), mP 5 18]) (.seq (.run [oP 19 (.iaArr 2 1 (tP 3) (.const (.int .i64 1))), oP 20 (.load false 1 (tP 19)), oP 21 (.conv (.ii .i64) (tP 20)), oP 22 (.iaArr 2 1 (tP 2) (.const (.int .i64 1))), oP 23 (.load false 1 (tP 22)), oP 24 (.conv (.ii .i64) (tP 23)), oP 25 (.bin .sub (tP 21) (tP 24)), mP 6 25]) (.seq (.run [mP 26 5, mP 27 5, oP 28 (.un .neg (tP 27)), oP 29 (.call 111 [.tmp 26, .tmp 28]), mP 30 6, mP 31 6, oP 32 (.un .neg (tP 31)), oP 33 (.call 111 [.tmp 30, .tmp 32]), oP 34 (.call 111 [.tmp 29, .tmp 33]), mP 7 34]) (.seq (.seq (.run [mP 35 7, oP 36 (.bin .eql (tP 35) (.const (.int .i64 0)))]) (.cond (tP 36) (.seq (.run [oP 37 (.load true 2 (tP 2)), oP 38 (.bslice 2 1 [.int .i16 0, .int .i16 0] [(0, 2, .tmp 37)]), mP 4 38]) (.ret)) (.skip))) (.seq (.run [oP 39 (.bslice 2 0 [] []), mP 8 39]) (.seq (.seq (.run [oP 9 (.move (.const (.int .i64 0)))]) (.block 0 (.loop (.seq (.seq (.run [mP 40 9, mP 41 7, oP 42 (.bin .leq (tP 40) (tP 41))]) (.cond (tP 42) (.skip) (.exit 0))) (.seq (.block 1 (.seq (.mix (.node [oP 45 (.iaArr 2 1 (tP 2) (.const (.int .i64 0))), oP 46 (.load false 1 (tP 45)), oP 47 (.conv (.ii .i64) (tP 46)), mP 48 9, oP 49 (.bin .mul (.const (.int .i64 2)) (tP 48)), mP 50 5, oP 51 (.bin .mul (tP 49) (tP 50)), mP 52 7, oP 53 (.bin .add (tP 51) (tP 52)), mP 54 7, oP 55 (.bin .mul (.const (.int .i64 2)) (tP 54))] (.cons false (oP 56 (.call 112 [.tmp 53, .tmp 55])) (.node [oP 57 (.bin .add (tP 47) (tP 56)), mP 10 57] .nil) .nil))) (.seq (.mix (.node [oP 58 (.iaArr 2 1 (tP 2) (.const (.int .i64 1))), oP 59 (.load false 1 (tP 58)), oP 60 (.conv (.ii .i64) (tP 59)), mP 61 9, oP 62 (.bin .mul (.const (.int .i64 2)) (tP 61)), mP 63 6, oP 64 (.bin .mul (tP 62) (tP 63)), mP 65 7, oP 66 (.bin .add (tP 64) (tP 65)), mP 67 7, oP 68 (.bin .mul (.const (.int .i64 2)) (tP 67))] (.cons false (oP 69 (.call 112 [.tmp 66, .tmp 68])) (.node [oP 70 (.bin .add (tP 60) (tP 69)), mP 11 70] .nil) .nil))) (.run [mP 71 8, mP 72 10, oP 73 (.conv (.ii .i16) (tP 72)), mP 74 11, oP 75 (.conv (.ii .i16) (tP 74)), oP 76 (.build [.int .i16 0, .int .i16 0] [(0, 1, .tmp 73), (1, 1, .tmp 75)]), oP 77 (.bslice 2 1 [.int .i16 0, .int .i16 0] [(0, 2, .tmp 76)]), oP 78 (.append 2 4 (tP 71) (tP 77)), mP 8 78])))) (.run [mP 43 9, oP 44 (.bin .add (tP 43) (.const (.int .i64 1))), mP 9 44])))))) (.seq (.run [mP 79 8, mP 4 79]) (.ret))))))))⟩
theorem h_spec_l07Line : cFun Try.prog 73 = some c_spec_l07Line := by kernel_rfl

def c_impl_spotsBetween : AFun := ⟨71, [.tmp 4], .seq (.run [oP 2 (.box (tP 0)), oP 3 (.box (tP 1)), oP 4 (.move (.const (.nilslice)))]) (.seq (.mix (.node [oP 12 (.iaArr 2 1 (tP 2) (.const (.int .i64 0))), oP 13 (.load false 1 (tP 12)), oP 14 (.conv (.ii .i64) (tP 13)), oP 15 (.iaArr 2 1 (tP 2) (.const (.int .i64 1))), oP 16 (.load false 1 (tP 15)), oP 17 (.conv (.ii .i64) (tP 16)), mP 5 14, mP 6 17] .nil)) (.seq (.mix (.node [oP 18 (.iaArr 2 1 (tP 3) (.const (.int .i64 0))), oP 19 (.load false 1 (tP 18)), oP 20 (.conv (.ii .i64) (tP 19)), mP 21 5, oP 22 (.bin .sub (tP 20) (tP 21)), oP 23 (.iaArr 2 1 (tP 3) (.const (.int .i64 1))), oP 24 (.load false 1 (tP 23)), oP 25 (.conv (.ii .i64) (tP 24)), mP 26 6, oP 27 (.bin .sub (tP 25) (tP 26)), mP 7 22, mP 8 27] .nil)) (.seq (.run [mP 28 7, mP 29 7, oP 30 (.un .neg (tP 29)), mP 31 8, mP 32 8, oP 33 (.un .neg (tP 32)), oP 34 (.max4 (tP 28) (tP 30) (tP 31) (tP 33)), mP 9 34]) (.seq (.run [oP 35 (.load true 2 (tP 2)), oP 36 (.bslice 2 1 [.int .i16 0, .int .i16 0] [(0, 2, .tmp 35)]), mP 10 36]) (.seq (.seq (.run [oP 11 (.move (.const (.int .i64 1)))]) (.block 0 (.loop (.seq (.seq (.run [mP 37 11, mP 38 9, oP 39 (.bin .leq (tP 37) (tP 38))]) (.cond (tP 39) (.skip) (.exit 0))) (.seq (.block 1 (.run [mP 42 10, mP 43 5, mP 44 11, oP 45 (.bin .mul (.const (.int .i64 2)) (tP 44)), mP 46 7, oP 47 (.bin .mul (tP 45) (tP 46)), mP 48 9, oP 49 (.bin .add (tP 47) (tP 48)), mP 50 9, oP 51 (.bin .mul (.const (.int .i64 2)) (tP 50)), oP 52 (.call 113 [.tmp 49, .tmp 51]), oP 53 (.bin .add (tP 43) (tP 52)), oP 54 (.conv (.ii .i16) (tP 53)), mP 55 6, mP 56 11, oP 57 (.bin .mul (.const (.int .i64 2)) (tP 56)), mP 58 8, oP 59 (.bin .mul (tP 57) (tP 58)), mP 60 9, oP 61 (.bin .add (tP 59) (tP 60)), mP 62 9, oP 63 (.bin .mul (.const (.int .i64 2)) (tP 62)), oP 64 (.call 113 [.tmp 61, .tmp 63]), oP 65 (.bin .add (tP 55) (tP 64)), oP 66 (.conv (.ii .i16) (tP 65)), oP 67 (.build [.int .i16 0, .int .i16 0] [(0, 1, .tmp 54), (1, 1, .tmp 66)]), oP 68 (.bslice 2 1 [.int .i16 0, .int .i16 0] [(0, 2, .tmp 67)]), oP 69 (.append 2 4 (tP 42) (tP 68)), mP 10 69])) (.run [mP 40 11, oP 41 (.bin .add (tP 40) (.const (.int .i64 1))), mP 11 41])))))) (.seq (.run [mP 70 10, mP 4 70]) (.ret)))))))⟩
theorem h_impl_spotsBetween : cFun Try.prog 74 = some c_impl_spotsBetween := by kernel_rfl

def c_laws_eqSpot : AFun := ⟨17, [.tmp 4], .seq (.run [oP 2 (.box (tP 0)), oP 3 (.box (tP 1)), oP 4 (.move (.const (.bool false)))]) (.seq (.seq (.run [oP 5 (.move (.const (.int .i64 0)))]) (.block 0 (.loop (.seq (.seq (.run [mP 6 5, oP 7 (.bin .lss (tP 6) (.const (.int .i64 2)))]) (.cond (tP 7) (.skip) (.exit 0))) (.seq (.block 1 (.seq (.mix (.node [mP 10 5, oP 11 (.iaArr 2 1 (tP 2) (tP 10)), oP 12 (.load false 1 (tP 11)), mP 13 5, oP 14 (.iaArr 2 1 (tP 3) (tP 13)), oP 15 (.load false 1 (tP 14)), oP 16 (.bin .neq (tP 12) (tP 15))] .nil)) (.cond (tP 16) (.seq (.run [oP 4 (.move (.const (.bool false)))]) (.ret)) (.skip)))) (.run [mP 8 5, oP 9 (.bin .add (tP 8) (.const (.int .i64 1))), mP 5 9])))))) (.seq (.run [oP 4 (.move (.const (.bool true)))]) (.ret)))⟩
theorem h_laws_eqSpot : cFun Try.prog 75 = some c_laws_eqSpot := by kernel_rfl




































def c_spec_l00Max : AFun := ⟨10, [.tmp 4], .seq (.run [oP 4 (.move (.const (.int .i64 0)))]) (.seq (.seq (.run [mP 5 0, mP 6 1, oP 7 (.bin .gtr (tP 5) (tP 6))]) (.cond (tP 7) (.seq (.run [mP 8 0, mP 4 8]) (.ret)) (.skip))) (.seq (.run [mP 9 1, mP 4 9]) (.ret)))⟩
theorem h_spec_l00Max : cFun Try.prog 111 = some c_spec_l00Max := by kernel_rfl

def c_spec_l07Floor : AFun := ⟨16, [.tmp 4], .seq (.run [oP 4 (.move (.const (.int .i64 0)))]) (.seq (.run [mP 6 0, mP 7 1, oP 8 (.bin .quo (tP 6) (tP 7)), mP 5 8]) (.seq (.seq (.run [mP 9 0, mP 10 1, oP 11 (.bin .rem (tP 9) (tP 10)), oP 12 (.bin .lss (tP 11) (.const (.int .i64 0)))]) (.cond (tP 12) (.run [mP 13 5, oP 14 (.bin .sub (tP 13) (.const (.int .i64 1))), mP 5 14]) (.skip))) (.seq (.run [mP 15 5, mP 4 15]) (.ret))))⟩
theorem h_spec_l07Floor : cFun Try.prog 112 = some c_spec_l07Floor := by kernel_rfl

def c_impl_quotient : AFun := ⟨16, [.tmp 4], .seq (.run [oP 4 (.move (.const (.int .i64 0)))]) (.seq (.run [mP 6 0, mP 7 1, oP 8 (.bin .quo (tP 6) (tP 7)), mP 5 8]) (.seq (.seq (.run [mP 9 0, mP 10 1, oP 11 (.bin .rem (tP 9) (tP 10)), oP 12 (.bin .lss (tP 11) (.const (.int .i64 0)))]) (.cond (tP 12) (.run [mP 13 5, oP 14 (.bin .sub (tP 13) (.const (.int .i64 1))), mP 5 14]) (.skip))) (.seq (.run [mP 15 5, mP 4 15]) (.ret))))⟩
theorem h_impl_quotient : cFun Try.prog 113 = some c_impl_quotient := by kernel_rfl























def tb : List (Nat × AFun) := [(6, c_laws_FnExactSpotsBetween), (24, c_spec_SpotsBetween), (25, c_laws_toSpot), (26, c_impl_SpotsBetween), (27, c_laws_eqSpotS), (28, c_laws_markSpotS), (29, c_laws_heldSpotS), (69, c_impl_within), (70, c_spec_l00In), (73, c_spec_l07Line), (74, c_impl_spotsBetween), (75, c_laws_eqSpot), (111, c_spec_l00Max), (112, c_spec_l07Floor), (113, c_impl_quotient)]

theorem tb_ok : TbOk Try.prog tb := (.cons h_laws_FnExactSpotsBetween (.cons h_spec_SpotsBetween (.cons h_laws_toSpot (.cons h_impl_SpotsBetween (.cons h_laws_eqSpotS (.cons h_laws_markSpotS (.cons h_laws_heldSpotS (.cons h_impl_within (.cons h_spec_l00In (.cons h_spec_l07Line (.cons h_impl_spotsBetween (.cons h_laws_eqSpot (.cons h_spec_l00Max (.cons h_spec_l07Floor (.cons h_impl_quotient .nil)))))))))))))))

end Go.Proofs.Ytnleibiniajbnaa
