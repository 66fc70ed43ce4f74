/- The compiled code of the functions, by the theory of the texts Ab; the table of all. -/
import Derived.Test.YtcmoeocemmeofaaRows
import Derived.Test.YtcmoeocemmeofaaAbD
import Derived.Test.YtcmoeocemmeofaaSxC
set_option linter.unusedVariables false
set_option linter.unusedSimpArgs false
namespace Go.Proofs.Ytcmoeocemmeofaa
open Go.Ab
def oP (d : Nat) (op : AOp) : AOper := ⟨some d, op, none⟩
def mP (d i : Nat) : AOper := ⟨some d, .move (.tmp i), none⟩
def tP (i : Nat) : Opd := .tmp i






def c_laws_FnExactLinksApart : AFun := ⟨48, [.tmp 6], .seq (.run [oP 3 (.box (tP 0)), oP 6 (.move (.const (.bool false)))]) (.seq (.run [oP 7 (.move (.const (.int .i64 1048576)))]) (.seq (.run [oP 13 (.load true 2 (tP 3)), mP 14 7, oP 15 (.call 13 [.tmp 13, .tmp 14]), mP 7 15]) (.seq (.seq (.run [mP 16 7, oP 17 (.bin .lss (tP 16) (.const (.int .i64 0)))]) (.cond (tP 17) (.seq (.run [oP 6 (.move (.const (.bool true)))]) (.ret)) (.skip))) (.seq (.run [oP 19 (.load true 2 (tP 3)), oP 20 (.call 15 [.tmp 19]), mP 21 1, mP 22 2, oP 23 (.call 32 [.tmp 20, .tmp 21, .tmp 22]), mP 18 23, oP 24 (.extract 0 (tP 18)), oP 25 (.extract 1 (tP 18)), mP 8 24, mP 9 25]) (.seq (.run [oP 26 (.load true 2 (tP 3)), oP 27 (.call 15 [.tmp 26]), oP 10 (.alloc [.nilslice, .nilslice]), ⟨none, .store 2 (tP 10) (tP 27), none⟩]) (.seq (.run [oP 29 (.load true 2 (tP 10)), mP 30 1, mP 31 2, oP 32 (.call 33 [.tmp 29, .tmp 30, .tmp 31]), mP 28 32, oP 33 (.extract 0 (tP 28)), oP 34 (.extract 1 (tP 28)), mP 11 33, mP 12 34]) (.seq (.seq (.run [mP 35 11, mP 36 8, oP 37 (.bin .neq (tP 35) (tP 36)), mP 38 37, ⟨some 39, .move (tP 12), some (38, false)⟩, ⟨some 40, .move (tP 9), some (38, false)⟩, ⟨some 41, .bin .neq (tP 39) (tP 40), some (38, false)⟩, oP 42 (.pick (tP 38) (.const (.bool true)) (tP 41))]) (.cond (tP 42) (.seq (.run [oP 6 (.move (.const (.bool false)))]) (.ret)) (.skip))) (.seq (.seq (.mix (.node [oP 43 (.load true 2 (tP 10)), oP 44 (.load true 2 (tP 3))] (.cons false (oP 45 (.call 15 [.tmp 44])) (.node [] (.cons false (oP 46 (.call 17 [.tmp 43, .tmp 45])) (.node [oP 47 (.un .not (tP 46))] .nil) .nil)) .nil))) (.cond (tP 47) (.seq (.run [oP 6 (.move (.const (.bool false)))]) (.ret)) (.skip))) (.seq (.run [oP 6 (.move (.const (.bool true)))]) (.ret))))))))))⟩
theorem h_laws_FnExactLinksApart : cFun Try.prog 7 = some c_laws_FnExactLinksApart := by kernel_rfl






def c_laws_szPoseGraph : AFun := ⟨18, [.tmp 4], .seq (.run [oP 2 (.box (tP 0)), oP 4 (.move (.const (.int .i64 0)))]) (.seq (.run [oP 5 (.faddr 0 (tP 2)), oP 6 (.load false 1 (tP 5)), mP 7 1, oP 8 (.call 18 [.tmp 6, .tmp 7]), mP 1 8]) (.seq (.seq (.run [mP 9 1, oP 10 (.bin .lss (tP 9) (.const (.int .i64 0)))]) (.cond (tP 10) (.seq (.run [oP 4 (.move (.const (.int .i64 (-1))))]) (.ret)) (.skip))) (.seq (.run [oP 11 (.faddr 1 (tP 2)), oP 12 (.load false 1 (tP 11)), mP 13 1, oP 14 (.call 47 [.tmp 12, .tmp 13]), mP 1 14]) (.seq (.seq (.run [mP 15 1, oP 16 (.bin .lss (tP 15) (.const (.int .i64 0)))]) (.cond (tP 16) (.seq (.run [oP 4 (.move (.const (.int .i64 (-1))))]) (.ret)) (.skip))) (.seq (.run [mP 17 1, mP 4 17]) (.ret))))))⟩
theorem h_laws_szPoseGraph : cFun Try.prog 13 = some c_laws_szPoseGraph := by kernel_rfl


def c_laws_toPoseGraph : AFun := ⟨13, [.cell 2 true 2], .seq (.run [oP 1 (.box (tP 0)), oP 2 (.alloc [.nilslice, .nilslice])]) (.seq (.run [oP 3 (.alloc [.nilslice, .nilslice])]) (.seq (.run [oP 4 (.faddr 0 (tP 1)), oP 5 (.load false 1 (tP 4)), oP 6 (.call 21 [.tmp 5]), oP 7 (.faddr 0 (tP 3)), ⟨none, .store 1 (tP 7) (tP 6), none⟩]) (.seq (.run [oP 8 (.faddr 1 (tP 1)), oP 9 (.load false 1 (tP 8)), oP 10 (.call 49 [.tmp 9]), oP 11 (.faddr 1 (tP 3)), ⟨none, .store 1 (tP 11) (tP 10), none⟩]) (.seq (.run [oP 12 (.load true 2 (tP 3)), ⟨none, .store 2 (tP 2) (tP 12), none⟩]) (.ret)))))⟩
theorem h_laws_toPoseGraph : cFun Try.prog 15 = some c_laws_toPoseGraph := by kernel_rfl


def c_laws_eqPoseGraph : AFun := ⟨17, [.tmp 4], .seq (.run [oP 2 (.box (tP 0)), oP 3 (.box (tP 1)), oP 4 (.move (.const (.bool false)))]) (.seq (.seq (.run [oP 5 (.faddr 0 (tP 2)), oP 6 (.load false 1 (tP 5)), oP 7 (.faddr 0 (tP 3)), oP 8 (.load false 1 (tP 7)), oP 9 (.call 23 [.tmp 6, .tmp 8]), oP 10 (.un .not (tP 9))]) (.cond (tP 10) (.seq (.run [oP 4 (.move (.const (.bool false)))]) (.ret)) (.skip))) (.seq (.seq (.run [oP 11 (.faddr 1 (tP 2)), oP 12 (.load false 1 (tP 11)), oP 13 (.faddr 1 (tP 3)), oP 14 (.load false 1 (tP 13)), oP 15 (.call 55 [.tmp 12, .tmp 14]), oP 16 (.un .not (tP 15))]) (.cond (tP 16) (.seq (.run [oP 4 (.move (.const (.bool false)))]) (.ret)) (.skip))) (.seq (.run [oP 4 (.move (.const (.bool true)))]) (.ret))))⟩
theorem h_laws_eqPoseGraph : cFun Try.prog 17 = some c_laws_eqPoseGraph := by kernel_rfl

def c_laws_szPoseS : AFun := ⟨12, [.tmp 4], .seq (.run [oP 4 (.move (.const (.int .i64 0)))]) (.seq (.run [mP 5 1, mP 6 0, oP 7 (.len (tP 6)), oP 8 (.bin .sub (tP 5) (tP 7)), mP 1 8]) (.seq (.seq (.run [mP 9 1, oP 10 (.bin .lss (tP 9) (.const (.int .i64 0)))]) (.cond (tP 10) (.seq (.run [oP 4 (.move (.const (.int .i64 (-1))))]) (.ret)) (.skip))) (.seq (.run [mP 11 1, mP 4 11]) (.ret))))⟩
theorem h_laws_szPoseS : cFun Try.prog 18 = some c_laws_szPoseS := by kernel_rfl


def c_laws_toPose : AFun := ⟨15, [.cell 2 true 3], .seq (.run [oP 1 (.box (tP 0)), oP 2 (.alloc [.flt .f32 (some 0), .flt .f32 (some 0), .flt .f32 (some 0)])]) (.seq (.run [oP 3 (.alloc [.flt .f32 (some 0), .flt .f32 (some 0), .flt .f32 (some 0)])]) (.seq (.seq (.run [oP 4 (.move (.const (.int .i64 0)))]) (.block 0 (.loop (.seq (.seq (.run [mP 5 4, oP 6 (.bin .lss (tP 5) (.const (.int .i64 3)))]) (.cond (tP 6) (.skip) (.exit 0))) (.seq (.block 1 (.run [mP 9 4, mP 10 4, oP 11 (.iaArr 3 1 (tP 1) (tP 10)), oP 12 (.load false 1 (tP 11)), oP 13 (.iaArr 3 1 (tP 3) (tP 9)), ⟨none, .store 1 (tP 13) (tP 12), none⟩])) (.run [mP 7 4, oP 8 (.bin .add (tP 7) (.const (.int .i64 1))), mP 4 8])))))) (.seq (.run [oP 14 (.load true 3 (tP 3)), ⟨none, .store 3 (tP 2) (tP 14), none⟩]) (.ret))))⟩
theorem h_laws_toPose : cFun Try.prog 20 = some c_laws_toPose := by kernel_rfl

def c_laws_toPoseS : AFun := ⟨23, [.tmp 2], .seq (.run [oP 2 (.move (.const (.nilslice)))]) (.seq (.run [mP 5 0, oP 6 (.len (tP 5)), oP 7 (.mkSlice 3 12 [.flt .f32 (some 0), .flt .f32 (some 0), .flt .f32 (some 0)] (tP 6) (tP 6)), mP 3 7]) (.seq (.seq (.run [oP 4 (.move (.const (.int .i64 0)))]) (.block 0 (.loop (.seq (.seq (.run [mP 8 4, mP 9 0, oP 10 (.len (tP 9)), oP 11 (.bin .lss (tP 8) (tP 10))]) (.cond (tP 11) (.skip) (.exit 0))) (.seq (.block 1 (.run [mP 14 3, mP 15 4, mP 16 0, mP 17 4, oP 18 (.iaSl 3 (tP 16) (tP 17)), oP 19 (.load true 3 (tP 18)), oP 20 (.call 20 [.tmp 19]), oP 21 (.iaSl 3 (tP 14) (tP 15)), ⟨none, .store 3 (tP 21) (tP 20), none⟩])) (.run [mP 12 4, oP 13 (.bin .add (tP 12) (.const (.int .i64 1))), mP 4 13])))))) (.seq (.run [mP 22 3, mP 2 22]) (.ret))))⟩
theorem h_laws_toPoseS : cFun Try.prog 21 = some c_laws_toPoseS := by kernel_rfl


def c_laws_eqPoseS : AFun := ⟨27, [.tmp 4], .seq (.run [oP 4 (.move (.const (.bool false)))]) (.seq (.seq (.run [mP 6 0, oP 7 (.len (tP 6)), mP 8 1, oP 9 (.len (tP 8)), oP 10 (.bin .neq (tP 7) (tP 9))]) (.cond (tP 10) (.seq (.run [oP 4 (.move (.const (.bool false)))]) (.ret)) (.skip))) (.seq (.seq (.run [oP 5 (.move (.const (.int .i64 0)))]) (.block 0 (.loop (.seq (.seq (.run [mP 11 5, mP 12 0, oP 13 (.len (tP 12)), oP 14 (.bin .lss (tP 11) (tP 13))]) (.cond (tP 14) (.skip) (.exit 0))) (.seq (.block 1 (.seq (.mix (.node [mP 17 0, mP 18 5, oP 19 (.iaSl 3 (tP 17) (tP 18)), oP 20 (.load true 3 (tP 19)), mP 21 1, mP 22 5, oP 23 (.iaSl 3 (tP 21) (tP 22)), oP 24 (.load true 3 (tP 23))] (.cons true (oP 25 (.call 28 [.tmp 20, .tmp 24])) (.node [oP 26 (.un .not (tP 25))] .nil) .nil))) (.cond (tP 26) (.seq (.run [oP 4 (.move (.const (.bool false)))]) (.ret)) (.skip)))) (.run [mP 15 5, oP 16 (.bin .add (tP 15) (.const (.int .i64 1))), mP 5 16])))))) (.seq (.run [oP 4 (.move (.const (.bool true)))]) (.ret))))⟩
theorem h_laws_eqPoseS : cFun Try.prog 23 = some c_laws_eqPoseS := by kernel_rfl





def c_laws_eqPose : AFun := ⟨20, [.tmp 4], .seq (.run [oP 2 (.box (tP 0)), oP 3 (.box (tP 1)), oP 4 (.move (.const (.bool false)))]) (.seq (.seq (.run [oP 5 (.move (.const (.int .i64 0)))]) (.block 0 (.loop (.seq (.seq (.run [mP 6 5, oP 7 (.bin .lss (tP 6) (.const (.int .i64 3)))]) (.cond (tP 7) (.skip) (.exit 0))) (.seq (.block 1 (.seq (.mix (.node [mP 10 5, oP 11 (.iaArr 3 1 (tP 2) (tP 10)), oP 12 (.load false 1 (tP 11)), oP 13 (.conv (.ff .f64) (tP 12)), mP 14 5, oP 15 (.iaArr 3 1 (tP 3) (tP 14)), oP 16 (.load false 1 (tP 15)), oP 17 (.conv (.ff .f64) (tP 16))] (.cons false (oP 18 (.call 31 [.tmp 13, .tmp 17])) (.node [oP 19 (.un .not (tP 18))] .nil) .nil))) (.cond (tP 19) (.seq (.run [oP 4 (.move (.const (.bool false)))]) (.ret)) (.skip)))) (.run [mP 8 5, oP 9 (.bin .add (tP 8) (.const (.int .i64 1))), mP 5 9])))))) (.seq (.run [oP 4 (.move (.const (.bool true)))]) (.ret)))⟩
theorem h_laws_eqPose : cFun Try.prog 28 = some c_laws_eqPose := by kernel_rfl



def c_laws_sameFloat : AFun := ⟨37, [.tmp 4], .seq (.run [oP 4 (.move (.const (.bool false)))]) (.seq (.seq (.run [mP 5 0, mP 6 0, oP 7 (.bin .neq (tP 5) (tP 6)), mP 8 7, ⟨some 9, .move (tP 1), some (8, false)⟩, ⟨some 10, .move (tP 1), some (8, false)⟩, ⟨some 11, .bin .neq (tP 9) (tP 10), some (8, false)⟩, oP 12 (.pick (tP 8) (.const (.bool true)) (tP 11))]) (.cond (tP 12) (.seq (.run [mP 13 0, mP 14 0, oP 15 (.bin .neq (tP 13) (tP 14)), mP 16 15, ⟨some 17, .move (tP 1), some (16, true)⟩, ⟨some 18, .move (tP 1), some (16, true)⟩, ⟨some 19, .bin .neq (tP 17) (tP 18), some (16, true)⟩, oP 20 (.pick (tP 16) (tP 19) (.const (.bool false))), mP 4 20]) (.ret)) (.skip))) (.seq (.seq (.run [mP 21 0, oP 22 (.bin .eql (tP 21) (.const (.flt .f64 (some 0)))), mP 23 22, ⟨some 24, .move (tP 1), some (23, true)⟩, ⟨some 25, .bin .eql (tP 24) (.const (.flt .f64 (some 0))), some (23, true)⟩, oP 26 (.pick (tP 23) (tP 25) (.const (.bool false)))]) (.cond (tP 26) (.seq (.run [mP 27 0, oP 28 (.bin .quo (.const (.flt .f64 (some 4607182418800017408))) (tP 27)), oP 29 (.bin .gtr (tP 28) (.const (.flt .f64 (some 0)))), mP 30 1, oP 31 (.bin .quo (.const (.flt .f64 (some 4607182418800017408))) (tP 30)), oP 32 (.bin .gtr (tP 31) (.const (.flt .f64 (some 0)))), oP 33 (.eqBool false (tP 29) (tP 32)), mP 4 33]) (.ret)) (.skip))) (.seq (.run [mP 34 0, mP 35 1, oP 36 (.bin .eql (tP 34) (tP 35)), mP 4 36]) (.ret))))⟩
theorem h_laws_sameFloat : cFun Try.prog 31 = some c_laws_sameFloat := by kernel_rfl

def c_spec_LinksApart : AFun := ⟨123, [.tmp 6, .tmp 7], .seq (.run [oP 3 (.box (tP 0)), oP 6 (.move (.const (.int .i64 0))), oP 7 (.move (.const (.int .i64 0)))]) (.seq (.seq (.run [oP 14 (.call 61 [.tmp 3]), oP 15 (.un .not (tP 14))]) (.cond (tP 15) (.seq (.run [oP 6 (.move (.const (.int .i64 0))), oP 7 (.move (.const (.int .i64 1)))]) (.ret)) (.skip))) (.seq (.run [oP 16 (.faddr 0 (tP 3)), oP 17 (.load false 1 (tP 16)), oP 18 (.len (tP 17)), mP 8 18]) (.seq (.seq (.run [mP 19 1, mP 20 8, oP 21 (.bin .sub (tP 20) (.const (.int .i64 1))), oP 22 (.call 62 [.tmp 19, .const (.int .i64 0), .tmp 21]), oP 23 (.un .not (tP 22)), mP 24 23, ⟨some 25, .move (tP 2), some (24, false)⟩, ⟨some 26, .move (tP 8), some (24, false)⟩, ⟨some 27, .bin .sub (tP 26) (.const (.int .i64 1)), some (24, false)⟩, ⟨some 28, .call 62 [.tmp 25, .const (.int .i64 0), .tmp 27], some (24, false)⟩, ⟨some 29, .un .not (tP 28), some (24, false)⟩, oP 30 (.pick (tP 24) (.const (.bool true)) (tP 29))]) (.cond (tP 30) (.seq (.run [oP 6 (.move (.const (.int .i64 0))), oP 7 (.move (.const (.int .i64 2)))]) (.ret)) (.skip))) (.seq (.run [mP 31 8, oP 32 (.mkSlice 1 8 [.int .i64 0] (tP 31) (tP 31)), mP 9 32]) (.seq (.seq (.run [oP 10 (.move (.const (.int .i64 0)))]) (.block 0 (.loop (.seq (.seq (.run [mP 33 10, mP 34 8, oP 35 (.bin .lss (tP 33) (tP 34))]) (.cond (tP 35) (.skip) (.exit 0))) (.seq (.block 1 (.run [mP 38 9, mP 39 10, oP 40 (.iaSl 1 (tP 38) (tP 39)), ⟨none, .store 1 (tP 40) (.const (.int .i64 (-1))), none⟩])) (.run [mP 36 10, oP 37 (.bin .add (tP 36) (.const (.int .i64 1))), mP 10 37])))))) (.seq (.run [mP 41 9, mP 42 1, oP 43 (.iaSl 1 (tP 41) (tP 42)), ⟨none, .store 1 (tP 43) (.const (.int .i64 0)), none⟩]) (.seq (.seq (.run [oP 11 (.move (.const (.int .i64 0)))]) (.block 2 (.loop (.seq (.seq (.run [mP 44 11, mP 45 8, oP 46 (.bin .lss (tP 44) (tP 45))]) (.cond (tP 46) (.skip) (.exit 2))) (.seq (.block 3 (.seq (.run [oP 12 (.move (.const (.int .i64 0)))]) (.block 4 (.loop (.seq (.seq (.run [mP 49 12, oP 50 (.faddr 1 (tP 3)), oP 51 (.load false 1 (tP 50)), oP 52 (.len (tP 51)), oP 53 (.bin .lss (tP 49) (tP 52))]) (.cond (tP 53) (.skip) (.exit 4))) (.seq (.block 5 (.seq (.run [oP 56 (.faddr 1 (tP 3)), oP 57 (.load false 1 (tP 56)), mP 58 12, oP 59 (.iaSl 6 (tP 57) (tP 58)), mP 13 59]) (.seq (.seq (.run [mP 60 9, mP 61 13, oP 62 (.nilCheck (tP 61)), oP 63 (.faddr 0 (tP 62)), oP 64 (.load false 1 (tP 63)), oP 65 (.iaSl 1 (tP 60) (tP 64)), oP 66 (.load false 1 (tP 65)), mP 67 11, oP 68 (.bin .eql (tP 66) (tP 67)), mP 69 68, ⟨some 70, .move (tP 9), some (69, true)⟩, ⟨some 71, .move (tP 13), some (69, true)⟩, ⟨some 72, .nilCheck (tP 71), some (69, true)⟩, ⟨some 73, .faddr 1 (tP 72), some (69, true)⟩, ⟨some 74, .load false 1 (tP 73), some (69, true)⟩, ⟨some 75, .iaSl 1 (tP 70) (tP 74), some (69, true)⟩, ⟨some 76, .load false 1 (tP 75), some (69, true)⟩, ⟨some 77, .bin .lss (tP 76) (.const (.int .i64 0)), some (69, true)⟩, oP 78 (.pick (tP 69) (tP 77) (.const (.bool false)))]) (.cond (tP 78) (.run [mP 79 9, mP 80 13, oP 81 (.nilCheck (tP 80)), oP 82 (.faddr 1 (tP 81)), oP 83 (.load false 1 (tP 82)), mP 84 11, oP 85 (.bin .add (tP 84) (.const (.int .i64 1))), oP 86 (.iaSl 1 (tP 79) (tP 83)), ⟨none, .store 1 (tP 86) (tP 85), none⟩]) (.skip))) (.seq (.run [mP 87 9, mP 88 13, oP 89 (.nilCheck (tP 88)), oP 90 (.faddr 1 (tP 89)), oP 91 (.load false 1 (tP 90)), oP 92 (.iaSl 1 (tP 87) (tP 91)), oP 93 (.load false 1 (tP 92)), mP 94 11, oP 95 (.bin .eql (tP 93) (tP 94)), mP 96 95, ⟨some 97, .move (tP 9), some (96, true)⟩, ⟨some 98, .move (tP 13), some (96, true)⟩, ⟨some 99, .nilCheck (tP 98), some (96, true)⟩, ⟨some 100, .faddr 0 (tP 99), some (96, true)⟩, ⟨some 101, .load false 1 (tP 100), some (96, true)⟩, ⟨some 102, .iaSl 1 (tP 97) (tP 101), some (96, true)⟩, ⟨some 103, .load false 1 (tP 102), some (96, true)⟩, ⟨some 104, .bin .lss (tP 103) (.const (.int .i64 0)), some (96, true)⟩, oP 105 (.pick (tP 96) (tP 104) (.const (.bool false)))]) (.cond (tP 105) (.run [mP 106 9, mP 107 13, oP 108 (.nilCheck (tP 107)), oP 109 (.faddr 0 (tP 108)), oP 110 (.load false 1 (tP 109)), mP 111 11, oP 112 (.bin .add (tP 111) (.const (.int .i64 1))), oP 113 (.iaSl 1 (tP 106) (tP 110)), ⟨none, .store 1 (tP 113) (tP 112), none⟩]) (.skip)))))) (.run [mP 54 12, oP 55 (.bin .add (tP 54) (.const (.int .i64 1))), mP 12 55]))))))) (.run [mP 47 11, oP 48 (.bin .add (tP 47) (.const (.int .i64 1))), mP 11 48])))))) (.seq (.seq (.run [mP 114 9, mP 115 2, oP 116 (.iaSl 1 (tP 114) (tP 115)), oP 117 (.load false 1 (tP 116)), oP 118 (.bin .lss (tP 117) (.const (.int .i64 0)))]) (.cond (tP 118) (.seq (.run [oP 6 (.move (.const (.int .i64 0))), oP 7 (.move (.const (.int .i64 6)))]) (.ret)) (.skip))) (.seq (.run [mP 119 9, mP 120 2, oP 121 (.iaSl 1 (tP 119) (tP 120)), oP 122 (.load false 1 (tP 121)), mP 6 122, oP 7 (.move (.const (.int .i64 0)))]) (.ret))))))))))⟩
theorem h_spec_LinksApart : cFun Try.prog 32 = some c_spec_LinksApart := by kernel_rfl

def c_impl_LinksApart : AFun := ⟨94, [.tmp 6, .tmp 7], .seq (.run [oP 3 (.box (tP 0)), oP 6 (.move (.const (.int .i64 0))), oP 7 (.move (.const (.int .i64 0)))]) (.seq (.run [oP 17 (.faddr 0 (tP 3)), oP 18 (.load false 1 (tP 17)), oP 19 (.len (tP 18)), oP 20 (.bin .sub (tP 19) (.const (.int .i64 1))), mP 8 20]) (.seq (.block 0 (.seq (.run [oP 22 (.load true 2 (tP 3)), oP 23 (.call 64 [.tmp 22]), oP 24 (.un .not (tP 23)), mP 21 24]) (.cond (tP 21) (.seq (.run [oP 6 (.move (.const (.int .i64 0))), oP 7 (.move (.const (.int .i64 1)))]) (.ret)) (.seq (.run [mP 26 1, mP 27 8, oP 28 (.call 65 [.tmp 26, .const (.int .i64 0), .tmp 27]), oP 29 (.un .not (tP 28)), mP 30 29, ⟨some 31, .move (tP 2), some (30, false)⟩, ⟨some 32, .move (tP 8), some (30, false)⟩, ⟨some 33, .call 65 [.tmp 31, .const (.int .i64 0), .tmp 32], some (30, false)⟩, ⟨some 34, .un .not (tP 33), some (30, false)⟩, oP 35 (.pick (tP 30) (.const (.bool true)) (tP 34)), mP 25 35]) (.cond (tP 25) (.seq (.run [oP 6 (.move (.const (.int .i64 0))), oP 7 (.move (.const (.int .i64 2)))]) (.ret)) (.skip)))))) (.seq (.run [oP 36 (.makeMap), mP 37 1, ⟨none, .mapUpdate (tP 36) (tP 37) (.const (.int .i64 0)), none⟩, mP 38 36, mP 9 38]) (.seq (.seq (.run [mP 39 1, oP 40 (.bslice 1 1 [.int .i64 0] [(0, 1, .tmp 39)]), mP 10 40]) (.block 1 (.loop (.seq (.seq (.run [mP 41 10, oP 42 (.len (tP 41)), oP 43 (.bin .gtr (tP 42) (.const (.int .i64 0)))]) (.cond (tP 43) (.skip) (.exit 1))) (.seq (.block 2 (.seq (.run [mP 46 10, oP 47 (.iaSl 1 (tP 46) (.const (.int .i64 0))), oP 48 (.load false 1 (tP 47)), mP 11 48]) (.seq (.seq (.run [mP 49 11, mP 50 2, oP 51 (.bin .eql (tP 49) (tP 50))]) (.cond (tP 51) (.seq (.run [mP 52 9, mP 53 2, oP 54 (.lookup (.int .i64 0) false (tP 52) (tP 53)), mP 6 54, oP 7 (.move (.const (.int .i64 0)))]) (.ret)) (.skip))) (.seq (.run [oP 55 (.faddr 1 (tP 3)), oP 56 (.load false 1 (tP 55)), oP 57 (.len (tP 56)), oP 58 (.move (.const (.int .i64 0)))]) (.block 3 (.loop (.seq (.run [oP 59 (.bin .lss (tP 58) (tP 57))]) (.seq (.cond (tP 59) (.skip) (.exit 3)) (.seq (.block 4 (.seq (.run [oP 60 (.iaSl 6 (tP 56) (tP 58)), oP 61 (.load true 6 (tP 60)), oP 13 (.alloc [.int .i64 0, .int .i64 0, .flt .f32 (some 0), .flt .f32 (some 0), .flt .f32 (some 0), .flt .f32 (some 0)]), ⟨none, .store 6 (tP 13) (tP 61), none⟩]) (.seq (.run [oP 62 (.faddr 0 (tP 13)), oP 63 (.load false 1 (tP 62)), mP 14 63]) (.seq (.seq (.run [mP 64 11]) (.block 5 (.seq (.run [oP 66 (.faddr 0 (tP 13)), oP 67 (.load false 1 (tP 66)), oP 68 (.bin .eql (tP 64) (tP 67)), mP 65 68]) (.cond (tP 65) (.run [oP 69 (.faddr 1 (tP 13)), oP 70 (.load false 1 (tP 69)), mP 14 70]) (.seq (.run [oP 72 (.faddr 1 (tP 13)), oP 73 (.load false 1 (tP 72)), oP 74 (.bin .eql (tP 64) (tP 73)), mP 71 74]) (.cond (tP 71) (.skip) (.exit 4))))))) (.seq (.run [mP 76 9, mP 77 14, oP 78 (.lookup (.int .i64 0) true (tP 76) (tP 77)), mP 75 78, oP 79 (.extract 0 (tP 75)), oP 80 (.extract 1 (tP 75)), mP 15 79, mP 16 80]) (.seq (.run [mP 81 16, oP 82 (.un .not (tP 81))]) (.cond (tP 82) (.seq (.run [mP 83 9, mP 84 14, mP 85 9, mP 86 11, oP 87 (.lookup (.int .i64 0) false (tP 85) (tP 86)), oP 88 (.bin .add (tP 87) (.const (.int .i64 1))), ⟨none, .mapUpdate (tP 83) (tP 84) (tP 88), none⟩]) (.run [mP 89 10, mP 90 14, oP 91 (.bslice 1 1 [.int .i64 0] [(0, 1, .tmp 90)]), oP 92 (.append 1 8 (tP 89) (tP 91)), mP 10 92])) (.skip)))))))) (.run [oP 93 (.bin .add (tP 58) (.const (.int .i64 1))), mP 58 93])))))))))) (.run [mP 44 10, oP 45 (.slSl 1 (tP 44) (some (.const (.int .i64 1))) none none), mP 10 45])))))) (.seq (.run [oP 6 (.move (.const (.int .i64 0))), oP 7 (.move (.const (.int .i64 6)))]) (.ret))))))⟩
theorem h_impl_LinksApart : cFun Try.prog 33 = some c_impl_LinksApart := by kernel_rfl








def c_laws_toLink : AFun := ⟨18, [.cell 2 true 6], .seq (.run [oP 1 (.box (tP 0)), oP 2 (.alloc [.int .i64 0, .int .i64 0, .flt .f32 (some 0), .flt .f32 (some 0), .flt .f32 (some 0), .flt .f32 (some 0)])]) (.seq (.run [oP 3 (.alloc [.int .i64 0, .int .i64 0, .flt .f32 (some 0), .flt .f32 (some 0), .flt .f32 (some 0), .flt .f32 (some 0)])]) (.seq (.run [oP 4 (.faddr 0 (tP 1)), oP 5 (.load false 1 (tP 4)), oP 6 (.faddr 0 (tP 3)), ⟨none, .store 1 (tP 6) (tP 5), none⟩]) (.seq (.run [oP 7 (.faddr 1 (tP 1)), oP 8 (.load false 1 (tP 7)), oP 9 (.faddr 1 (tP 3)), ⟨none, .store 1 (tP 9) (tP 8), none⟩]) (.seq (.run [oP 10 (.faddr 2 (tP 1)), oP 11 (.load true 3 (tP 10)), oP 12 (.call 20 [.tmp 11]), oP 13 (.faddr 2 (tP 3)), ⟨none, .store 3 (tP 13) (tP 12), none⟩]) (.seq (.run [oP 14 (.faddr 5 (tP 1)), oP 15 (.load false 1 (tP 14)), oP 16 (.faddr 5 (tP 3)), ⟨none, .store 1 (tP 16) (tP 15), none⟩]) (.seq (.run [oP 17 (.load true 6 (tP 3)), ⟨none, .store 6 (tP 2) (tP 17), none⟩]) (.ret)))))))⟩
theorem h_laws_toLink : cFun Try.prog 41 = some c_laws_toLink := by kernel_rfl






def c_laws_szLinkS : AFun := ⟨12, [.tmp 4], .seq (.run [oP 4 (.move (.const (.int .i64 0)))]) (.seq (.run [mP 5 1, mP 6 0, oP 7 (.len (tP 6)), oP 8 (.bin .sub (tP 5) (tP 7)), mP 1 8]) (.seq (.seq (.run [mP 9 1, oP 10 (.bin .lss (tP 9) (.const (.int .i64 0)))]) (.cond (tP 10) (.seq (.run [oP 4 (.move (.const (.int .i64 (-1))))]) (.ret)) (.skip))) (.seq (.run [mP 11 1, mP 4 11]) (.ret))))⟩
theorem h_laws_szLinkS : cFun Try.prog 47 = some c_laws_szLinkS := by kernel_rfl


def c_laws_toLinkS : AFun := ⟨23, [.tmp 2], .seq (.run [oP 2 (.move (.const (.nilslice)))]) (.seq (.run [mP 5 0, oP 6 (.len (tP 5)), oP 7 (.mkSlice 6 32 [.int .i64 0, .int .i64 0, .flt .f32 (some 0), .flt .f32 (some 0), .flt .f32 (some 0), .flt .f32 (some 0)] (tP 6) (tP 6)), mP 3 7]) (.seq (.seq (.run [oP 4 (.move (.const (.int .i64 0)))]) (.block 0 (.loop (.seq (.seq (.run [mP 8 4, mP 9 0, oP 10 (.len (tP 9)), oP 11 (.bin .lss (tP 8) (tP 10))]) (.cond (tP 11) (.skip) (.exit 0))) (.seq (.block 1 (.run [mP 14 3, mP 15 4, mP 16 0, mP 17 4, oP 18 (.iaSl 6 (tP 16) (tP 17)), oP 19 (.load true 6 (tP 18)), oP 20 (.call 41 [.tmp 19]), oP 21 (.iaSl 6 (tP 14) (tP 15)), ⟨none, .store 6 (tP 21) (tP 20), none⟩])) (.run [mP 12 4, oP 13 (.bin .add (tP 12) (.const (.int .i64 1))), mP 4 13])))))) (.seq (.run [mP 22 3, mP 2 22]) (.ret))))⟩
theorem h_laws_toLinkS : cFun Try.prog 49 = some c_laws_toLinkS := by kernel_rfl






def c_laws_eqLinkS : AFun := ⟨27, [.tmp 4], .seq (.run [oP 4 (.move (.const (.bool false)))]) (.seq (.seq (.run [mP 6 0, oP 7 (.len (tP 6)), mP 8 1, oP 9 (.len (tP 8)), oP 10 (.bin .neq (tP 7) (tP 9))]) (.cond (tP 10) (.seq (.run [oP 4 (.move (.const (.bool false)))]) (.ret)) (.skip))) (.seq (.seq (.run [oP 5 (.move (.const (.int .i64 0)))]) (.block 0 (.loop (.seq (.seq (.run [mP 11 5, mP 12 0, oP 13 (.len (tP 12)), oP 14 (.bin .lss (tP 11) (tP 13))]) (.cond (tP 14) (.skip) (.exit 0))) (.seq (.block 1 (.seq (.mix (.node [mP 17 0, mP 18 5, oP 19 (.iaSl 6 (tP 17) (tP 18)), oP 20 (.load true 6 (tP 19)), mP 21 1, mP 22 5, oP 23 (.iaSl 6 (tP 21) (tP 22)), oP 24 (.load true 6 (tP 23))] (.cons true (oP 25 (.call 86 [.tmp 20, .tmp 24])) (.node [oP 26 (.un .not (tP 25))] .nil) .nil))) (.cond (tP 26) (.seq (.run [oP 4 (.move (.const (.bool false)))]) (.ret)) (.skip)))) (.run [mP 15 5, oP 16 (.bin .add (tP 15) (.const (.int .i64 1))), mP 5 16])))))) (.seq (.run [oP 4 (.move (.const (.bool true)))]) (.ret))))⟩
theorem h_laws_eqLinkS : cFun Try.prog 55 = some c_laws_eqLinkS := by kernel_rfl


def c_impl_IsFinitePose : AFun := ⟨5, [.tmp 2], .seq (.run [oP 1 (.box (tP 0)), oP 2 (.move (.const (.bool false)))]) (.seq (.run [oP 3 (.slArr 3 1 (tP 1) none none none), oP 4 (.call 89 [.tmp 3]), mP 2 4]) (.ret))⟩
theorem h_impl_IsFinitePose : cFun Try.prog 57 = some c_impl_IsFinitePose := by kernel_rfl

def c_slices_ContainsFunc_impl_Pose_impl_Pose : AFun := ⟨9, [.tmp 4], .seq (.run [oP 4 (.move (.const (.bool false)))]) (.seq (.run [mP 5 0, mP 6 1, oP 7 (.call 90 [.tmp 5, .tmp 6]), oP 8 (.bin .geq (tP 7) (.const (.int .i64 0))), mP 4 8]) (.ret))⟩
theorem h_slices_ContainsFunc_impl_Pose_impl_Pose : cFun Try.prog 58 = some c_slices_ContainsFunc_impl_Pose_impl_Pose := by kernel_rfl



def c_spec_l06Ok : AFun := ⟨58, [.tmp 2], .seq (.run [oP 2 (.move (.const (.bool false)))]) (.seq (.run [mP 6 0, oP 7 (.nilCheck (tP 6)), oP 8 (.faddr 0 (tP 7)), oP 9 (.load false 1 (tP 8)), oP 10 (.len (tP 9)), mP 3 10]) (.seq (.seq (.run [mP 11 3, oP 12 (.call 62 [.tmp 11, .const (.int .i64 1), .const (.int .i64 60)]), oP 13 (.un .not (tP 12)), mP 14 13, ⟨some 15, .move (tP 0), some (14, false)⟩, ⟨some 16, .nilCheck (tP 15), some (14, false)⟩, ⟨some 17, .faddr 1 (tP 16), some (14, false)⟩, ⟨some 18, .load false 1 (tP 17), some (14, false)⟩, ⟨some 19, .len (tP 18), some (14, false)⟩, ⟨some 20, .bin .gtr (tP 19) (.const (.int .i64 120)), some (14, false)⟩, oP 21 (.pick (tP 14) (.const (.bool true)) (tP 20))]) (.cond (tP 21) (.seq (.run [oP 2 (.move (.const (.bool false)))]) (.ret)) (.skip))) (.seq (.seq (.run [oP 4 (.move (.const (.int .i64 0)))]) (.block 0 (.loop (.seq (.seq (.run [mP 22 4, mP 23 0, oP 24 (.nilCheck (tP 23)), oP 25 (.faddr 0 (tP 24)), oP 26 (.load false 1 (tP 25)), oP 27 (.len (tP 26)), oP 28 (.bin .lss (tP 22) (tP 27))]) (.cond (tP 28) (.skip) (.exit 0))) (.seq (.block 1 (.seq (.run [mP 31 0, oP 32 (.nilCheck (tP 31)), oP 33 (.faddr 0 (tP 32)), oP 34 (.load false 1 (tP 33)), mP 35 4, oP 36 (.iaSl 3 (tP 34) (tP 35)), oP 37 (.load true 3 (tP 36)), oP 38 (.call 87 [.tmp 37]), oP 39 (.un .not (tP 38))]) (.cond (tP 39) (.seq (.run [oP 2 (.move (.const (.bool false)))]) (.ret)) (.skip)))) (.run [mP 29 4, oP 30 (.bin .add (tP 29) (.const (.int .i64 1))), mP 4 30])))))) (.seq (.seq (.run [oP 5 (.move (.const (.int .i64 0)))]) (.block 2 (.loop (.seq (.seq (.run [mP 40 5, mP 41 0, oP 42 (.nilCheck (tP 41)), oP 43 (.faddr 1 (tP 42)), oP 44 (.load false 1 (tP 43)), oP 45 (.len (tP 44)), oP 46 (.bin .lss (tP 40) (tP 45))]) (.cond (tP 46) (.skip) (.exit 2))) (.seq (.block 3 (.seq (.run [mP 49 0, oP 50 (.nilCheck (tP 49)), oP 51 (.faddr 1 (tP 50)), oP 52 (.load false 1 (tP 51)), mP 53 5, oP 54 (.iaSl 6 (tP 52) (tP 53)), mP 55 3, oP 56 (.call 94 [.tmp 54, .tmp 55]), oP 57 (.un .not (tP 56))]) (.cond (tP 57) (.seq (.run [oP 2 (.move (.const (.bool false)))]) (.ret)) (.skip)))) (.run [mP 47 5, oP 48 (.bin .add (tP 47) (.const (.int .i64 1))), mP 5 48])))))) (.seq (.run [oP 2 (.move (.const (.bool true)))]) (.ret))))))⟩
theorem h_spec_l06Ok : cFun Try.prog 61 = some c_spec_l06Ok := by kernel_rfl

def c_spec_l00In : AFun := ⟨15, [.tmp 6], .seq (.run [oP 6 (.move (.const (.bool false)))]) (.seq (.run [mP 7 0, mP 8 1, oP 9 (.bin .geq (tP 7) (tP 8)), mP 10 9, ⟨some 11, .move (tP 0), some (10, true)⟩, ⟨some 12, .move (tP 2), some (10, true)⟩, ⟨some 13, .bin .leq (tP 11) (tP 12), some (10, true)⟩, oP 14 (.pick (tP 10) (tP 13) (.const (.bool false))), mP 6 14]) (.ret))⟩
theorem h_spec_l00In : cFun Try.prog 62 = some c_spec_l00In := by kernel_rfl


def c_impl_ValidGraph : AFun := ⟨25, [.tmp 2], .seq (.run [oP 1 (.box (tP 0)), oP 2 (.move (.const (.bool false)))]) (.seq (.seq (.run [oP 3 (.faddr 0 (tP 1)), oP 4 (.load false 1 (tP 3)), oP 5 (.len (tP 4)), oP 6 (.call 65 [.tmp 5, .const (.int .i64 1), .const (.int .i64 60)]), oP 7 (.un .not (tP 6)), mP 8 7, ⟨some 9, .faddr 1 (tP 1), some (8, false)⟩, ⟨some 10, .load false 1 (tP 9), some (8, false)⟩, ⟨some 11, .len (tP 10), some (8, false)⟩, ⟨some 12, .bin .gtr (tP 11) (.const (.int .i64 120)), some (8, false)⟩, oP 13 (.pick (tP 8) (.const (.bool true)) (tP 12))]) (.cond (tP 13) (.seq (.run [oP 2 (.move (.const (.bool false)))]) (.ret)) (.skip))) (.seq (.run [oP 14 (.faddr 0 (tP 1)), oP 15 (.load false 1 (tP 14)), oP 16 (.call 58 [.tmp 15, .const (.func 96 [] [])]), oP 17 (.un .not (tP 16)), mP 18 17, ⟨some 19, .faddr 1 (tP 1), some (18, true)⟩, ⟨some 20, .load false 1 (tP 19), some (18, true)⟩, ⟨some 21, .fn 98 [] [.tmp 1], some (18, true)⟩, ⟨some 22, .call 97 [.tmp 20, .tmp 21], some (18, true)⟩, ⟨some 23, .un .not (tP 22), some (18, true)⟩, oP 24 (.pick (tP 18) (tP 23) (.const (.bool false))), mP 2 24]) (.ret)))⟩
theorem h_impl_ValidGraph : cFun Try.prog 64 = some c_impl_ValidGraph := by kernel_rfl

def c_impl_within : AFun := ⟨15, [.tmp 6], .seq (.run [oP 6 (.move (.const (.bool false)))]) (.seq (.run [mP 7 0, mP 8 1, oP 9 (.bin .geq (tP 7) (tP 8)), mP 10 9, ⟨some 11, .move (tP 0), some (10, true)⟩, ⟨some 12, .move (tP 2), some (10, true)⟩, ⟨some 13, .bin .leq (tP 11) (tP 12), some (10, true)⟩, oP 14 (.pick (tP 10) (tP 13) (.const (.bool false))), mP 6 14]) (.ret))⟩
theorem h_impl_within : cFun Try.prog 65 = some c_impl_within := by kernel_rfl







def c_spec_l06Weight : AFun := ⟨9, [.tmp 2], .seq (.run [oP 2 (.move (.const (.bool false)))]) (.seq (.run [mP 3 0, oP 4 (.call 103 [.tmp 3]), mP 5 4, ⟨some 6, .move (tP 0), some (5, true)⟩, ⟨some 7, .bin .gtr (tP 6) (.const (.flt .f32 (some 0))), some (5, true)⟩, oP 8 (.pick (tP 5) (tP 7) (.const (.bool false))), mP 2 8]) (.ret))⟩
theorem h_spec_l06Weight : cFun Try.prog 72 = some c_spec_l06Weight := by kernel_rfl

def c_impl_isSide : AFun := ⟨10, [.tmp 2], .seq (.run [oP 2 (.move (.const (.bool false)))]) (.seq (.run [mP 3 0, oP 4 (.bslice 1 1 [.flt .f32 (some 0)] [(0, 1, .tmp 3)]), oP 5 (.call 89 [.tmp 4]), mP 6 5, ⟨some 7, .move (tP 0), some (6, true)⟩, ⟨some 8, .bin .gtr (tP 7) (.const (.flt .f32 (some 0))), some (6, true)⟩, oP 9 (.pick (tP 6) (tP 8) (.const (.bool false))), mP 2 9]) (.ret))⟩
theorem h_impl_isSide : cFun Try.prog 73 = some c_impl_isSide := by kernel_rfl












def c_laws_eqLink : AFun := ⟨29, [.tmp 4], .seq (.run [oP 2 (.box (tP 0)), oP 3 (.box (tP 1)), oP 4 (.move (.const (.bool false)))]) (.seq (.seq (.run [oP 5 (.faddr 0 (tP 2)), oP 6 (.load false 1 (tP 5)), oP 7 (.faddr 0 (tP 3)), oP 8 (.load false 1 (tP 7)), oP 9 (.bin .neq (tP 6) (tP 8))]) (.cond (tP 9) (.seq (.run [oP 4 (.move (.const (.bool false)))]) (.ret)) (.skip))) (.seq (.seq (.run [oP 10 (.faddr 1 (tP 2)), oP 11 (.load false 1 (tP 10)), oP 12 (.faddr 1 (tP 3)), oP 13 (.load false 1 (tP 12)), oP 14 (.bin .neq (tP 11) (tP 13))]) (.cond (tP 14) (.seq (.run [oP 4 (.move (.const (.bool false)))]) (.ret)) (.skip))) (.seq (.seq (.run [oP 15 (.faddr 2 (tP 2)), oP 16 (.load true 3 (tP 15)), oP 17 (.faddr 2 (tP 3)), oP 18 (.load true 3 (tP 17)), oP 19 (.call 28 [.tmp 16, .tmp 18]), oP 20 (.un .not (tP 19))]) (.cond (tP 20) (.seq (.run [oP 4 (.move (.const (.bool false)))]) (.ret)) (.skip))) (.seq (.seq (.run [oP 21 (.faddr 5 (tP 2)), oP 22 (.load false 1 (tP 21)), oP 23 (.conv (.ff .f64) (tP 22)), oP 24 (.faddr 5 (tP 3)), oP 25 (.load false 1 (tP 24)), oP 26 (.conv (.ff .f64) (tP 25)), oP 27 (.call 31 [.tmp 23, .tmp 26]), oP 28 (.un .not (tP 27))]) (.cond (tP 28) (.seq (.run [oP 4 (.move (.const (.bool false)))]) (.ret)) (.skip))) (.seq (.run [oP 4 (.move (.const (.bool true)))]) (.ret))))))⟩
theorem h_laws_eqLink : cFun Try.prog 86 = some c_laws_eqLink := by kernel_rfl

def c_spec_l06Finite : AFun := ⟨5, [.tmp 2], .seq (.run [oP 1 (.box (tP 0)), oP 2 (.move (.const (.bool false)))]) (.seq (.run [oP 3 (.load true 3 (tP 1)), oP 4 (.call 110 [.tmp 3]), mP 2 4]) (.ret))⟩
theorem h_spec_l06Finite : cFun Try.prog 87 = some c_spec_l06Finite := by kernel_rfl


def c_impl_isFinite : AFun := ⟨16, [.tmp 2], .seq (.run [oP 2 (.move (.const (.bool false)))]) (.seq (.seq (.run [mP 5 0, oP 6 (.len (tP 5)), oP 7 (.move (.const (.int .i64 0)))]) (.block 0 (.loop (.seq (.run [oP 8 (.bin .lss (tP 7) (tP 6))]) (.seq (.cond (tP 8) (.skip) (.exit 0)) (.seq (.block 1 (.seq (.run [oP 9 (.iaSl 1 (tP 5) (tP 7)), oP 10 (.load false 1 (tP 9)), mP 4 10]) (.seq (.run [mP 11 4, mP 12 4, oP 13 (.bin .sub (tP 11) (tP 12)), oP 14 (.bin .neq (tP 13) (.const (.flt .f32 (some 0))))]) (.cond (tP 14) (.seq (.run [oP 2 (.move (.const (.bool false)))]) (.ret)) (.skip))))) (.run [oP 15 (.bin .add (tP 7) (.const (.int .i64 1))), mP 7 15]))))))) (.seq (.run [oP 2 (.move (.const (.bool true)))]) (.ret)))⟩
theorem h_impl_isFinite : cFun Try.prog 89 = some c_impl_isFinite := by kernel_rfl

def c_slices_IndexFunc_impl_Pose_impl_Pose : AFun := ⟨19, [.tmp 4], .seq (.run [oP 4 (.move (.const (.int .i64 0)))]) (.seq (.seq (.run [mP 6 0, oP 7 (.len (tP 6)), oP 8 (.move (.const (.int .i64 0)))]) (.block 0 (.loop (.seq (.run [oP 9 (.bin .lss (tP 8) (tP 7))]) (.seq (.cond (tP 9) (.skip) (.exit 0)) (.seq (.block 1 (.seq (.run [mP 10 8, mP 5 10]) (.seq (.run [mP 11 1, mP 12 0, mP 13 5, oP 14 (.iaSl 3 (tP 12) (tP 13)), oP 15 (.load true 3 (tP 14)), oP 16 (.callV (tP 11) [.tmp 15])]) (.cond (tP 16) (.seq (.run [mP 17 5, mP 4 17]) (.ret)) (.skip))))) (.run [oP 18 (.bin .add (tP 8) (.const (.int .i64 1))), mP 8 18]))))))) (.seq (.run [oP 4 (.move (.const (.int .i64 (-1))))]) (.ret)))⟩
theorem h_slices_IndexFunc_impl_Pose_impl_Pose : cFun Try.prog 90 = some c_slices_IndexFunc_impl_Pose_impl_Pose := by kernel_rfl




def c_spec_l06Link : AFun := ⟨46, [.tmp 4], .seq (.run [oP 4 (.move (.const (.bool false)))]) (.seq (.mix (.node [mP 5 0, oP 6 (.nilCheck (tP 5)), oP 7 (.faddr 0 (tP 6)), oP 8 (.load false 1 (tP 7)), mP 9 1, oP 10 (.bin .sub (tP 9) (.const (.int .i64 1)))] (.cons true (oP 11 (.call 62 [.tmp 8, .const (.int .i64 0), .tmp 10])) (.node [mP 12 11, ⟨some 13, .move (tP 0), some (12, true)⟩, ⟨some 14, .nilCheck (tP 13), some (12, true)⟩, ⟨some 15, .faddr 1 (tP 14), some (12, true)⟩, ⟨some 16, .load false 1 (tP 15), some (12, true)⟩, ⟨some 17, .move (tP 1), some (12, true)⟩, ⟨some 18, .bin .sub (tP 17) (.const (.int .i64 1)), some (12, true)⟩] (.cons false ⟨some 19, .call 62 [.tmp 16, .const (.int .i64 0), .tmp 18], some (12, true)⟩ (.node [oP 20 (.pick (tP 12) (tP 19) (.const (.bool false))), mP 21 20, ⟨some 22, .move (tP 0), some (21, true)⟩, ⟨some 23, .nilCheck (tP 22), some (21, true)⟩, ⟨some 24, .faddr 0 (tP 23), some (21, true)⟩, ⟨some 25, .load false 1 (tP 24), some (21, true)⟩, ⟨some 26, .move (tP 0), some (21, true)⟩, ⟨some 27, .nilCheck (tP 26), some (21, true)⟩, ⟨some 28, .faddr 1 (tP 27), some (21, true)⟩, ⟨some 29, .load false 1 (tP 28), some (21, true)⟩, ⟨some 30, .bin .neq (tP 25) (tP 29), some (21, true)⟩, oP 31 (.pick (tP 21) (tP 30) (.const (.bool false))), mP 32 31, ⟨some 33, .move (tP 0), some (32, true)⟩, ⟨some 34, .nilCheck (tP 33), some (32, true)⟩, ⟨some 35, .faddr 2 (tP 34), some (32, true)⟩, ⟨some 36, .load true 3 (tP 35), some (32, true)⟩] (.cons false ⟨some 37, .call 87 [.tmp 36], some (32, true)⟩ (.node [oP 38 (.pick (tP 32) (tP 37) (.const (.bool false))), mP 39 38, ⟨some 40, .move (tP 0), some (39, true)⟩, ⟨some 41, .nilCheck (tP 40), some (39, true)⟩, ⟨some 42, .faddr 5 (tP 41), some (39, true)⟩, ⟨some 43, .load false 1 (tP 42), some (39, true)⟩] (.cons false ⟨some 44, .call 72 [.tmp 43], some (39, true)⟩ (.node [oP 45 (.pick (tP 39) (tP 44) (.const (.bool false))), mP 4 45] .nil) .nil)) .nil)) .nil)) .nil))) (.ret))⟩
theorem h_spec_l06Link : cFun Try.prog 94 = some c_spec_l06Link := by kernel_rfl


def c_impl_ValidGraph_1 : AFun := ⟨6, [.tmp 2], .seq (.run [oP 1 (.box (tP 0)), oP 2 (.move (.const (.bool false)))]) (.seq (.run [oP 3 (.load true 3 (tP 1)), oP 4 (.call 57 [.tmp 3]), oP 5 (.un .not (tP 4)), mP 2 5]) (.ret))⟩
theorem h_impl_ValidGraph_1 : cFun Try.prog 96 = some c_impl_ValidGraph_1 := by kernel_rfl

def c_slices_ContainsFunc_impl_Link_impl_Link : AFun := ⟨9, [.tmp 4], .seq (.run [oP 4 (.move (.const (.bool false)))]) (.seq (.run [mP 5 0, mP 6 1, oP 7 (.call 118 [.tmp 5, .tmp 6]), oP 8 (.bin .geq (tP 7) (.const (.int .i64 0))), mP 4 8]) (.ret))⟩
theorem h_slices_ContainsFunc_impl_Link_impl_Link : cFun Try.prog 97 = some c_slices_ContainsFunc_impl_Link_impl_Link := by kernel_rfl

def c_impl_ValidGraph_2 : AFun := ⟨10, [.tmp 3], .seq (.run [oP 2 (.box (tP 0)), oP 3 (.move (.const (.bool false)))]) (.seq (.run [oP 4 (.load true 6 (tP 2)), oP 5 (.faddr 0 (tP 1)), oP 6 (.load false 1 (tP 5)), oP 7 (.len (tP 6)), oP 8 (.call 99 [.tmp 4, .tmp 7]), oP 9 (.un .not (tP 8)), mP 3 9]) (.ret))⟩
theorem h_impl_ValidGraph_2 : cFun Try.prog 98 = some c_impl_ValidGraph_2 := by kernel_rfl

def c_impl_validLink : AFun := ⟨35, [.tmp 4], .seq (.run [oP 2 (.box (tP 0)), oP 4 (.move (.const (.bool false)))]) (.seq (.run [mP 6 1, oP 7 (.bin .sub (tP 6) (.const (.int .i64 1))), mP 5 7]) (.seq (.run [oP 8 (.faddr 0 (tP 2)), oP 9 (.load false 1 (tP 8)), mP 10 5, oP 11 (.call 65 [.tmp 9, .const (.int .i64 0), .tmp 10]), mP 12 11, ⟨some 13, .faddr 1 (tP 2), some (12, true)⟩, ⟨some 14, .load false 1 (tP 13), some (12, true)⟩, ⟨some 15, .move (tP 5), some (12, true)⟩, ⟨some 16, .call 65 [.tmp 14, .const (.int .i64 0), .tmp 15], some (12, true)⟩, oP 17 (.pick (tP 12) (tP 16) (.const (.bool false))), mP 18 17, ⟨some 19, .faddr 0 (tP 2), some (18, true)⟩, ⟨some 20, .load false 1 (tP 19), some (18, true)⟩, ⟨some 21, .faddr 1 (tP 2), some (18, true)⟩, ⟨some 22, .load false 1 (tP 21), some (18, true)⟩, ⟨some 23, .bin .neq (tP 20) (tP 22), some (18, true)⟩, oP 24 (.pick (tP 18) (tP 23) (.const (.bool false))), mP 25 24, ⟨some 26, .faddr 2 (tP 2), some (25, true)⟩, ⟨some 27, .load true 3 (tP 26), some (25, true)⟩, ⟨some 28, .call 57 [.tmp 27], some (25, true)⟩, oP 29 (.pick (tP 25) (tP 28) (.const (.bool false))), mP 30 29, ⟨some 31, .faddr 5 (tP 2), some (30, true)⟩, ⟨some 32, .load false 1 (tP 31), some (30, true)⟩, ⟨some 33, .call 73 [.tmp 32], some (30, true)⟩, oP 34 (.pick (tP 30) (tP 33) (.const (.bool false))), mP 4 34]) (.ret)))⟩
theorem h_impl_validLink : cFun Try.prog 99 = some c_impl_validLink := by kernel_rfl




def c_spec_l01Finite : AFun := ⟨7, [.tmp 2], .seq (.run [oP 2 (.move (.const (.bool false)))]) (.seq (.run [mP 3 0, mP 4 0, oP 5 (.bin .sub (tP 3) (tP 4)), oP 6 (.bin .eql (tP 5) (.const (.flt .f32 (some 0)))), mP 2 6]) (.ret))⟩
theorem h_spec_l01Finite : cFun Try.prog 103 = some c_spec_l01Finite := by kernel_rfl







def c_spec_l01Vec : AFun := ⟨16, [.tmp 2], .seq (.run [oP 1 (.box (tP 0)), oP 2 (.move (.const (.bool false)))]) (.seq (.run [oP 3 (.iaArr 3 1 (tP 1) (.const (.int .i64 0))), oP 4 (.load false 1 (tP 3)), oP 5 (.call 103 [.tmp 4]), mP 6 5, ⟨some 7, .iaArr 3 1 (tP 1) (.const (.int .i64 1)), some (6, true)⟩, ⟨some 8, .load false 1 (tP 7), some (6, true)⟩, ⟨some 9, .call 103 [.tmp 8], some (6, true)⟩, oP 10 (.pick (tP 6) (tP 9) (.const (.bool false))), mP 11 10, ⟨some 12, .iaArr 3 1 (tP 1) (.const (.int .i64 2)), some (11, true)⟩, ⟨some 13, .load false 1 (tP 12), some (11, true)⟩, ⟨some 14, .call 103 [.tmp 13], some (11, true)⟩, oP 15 (.pick (tP 11) (tP 14) (.const (.bool false))), mP 2 15]) (.ret))⟩
theorem h_spec_l01Vec : cFun Try.prog 110 = some c_spec_l01Vec := by kernel_rfl







def c_slices_IndexFunc_impl_Link_impl_Link : AFun := ⟨19, [.tmp 4], .seq (.run [oP 4 (.move (.const (.int .i64 0)))]) (.seq (.seq (.run [mP 6 0, oP 7 (.len (tP 6)), oP 8 (.move (.const (.int .i64 0)))]) (.block 0 (.loop (.seq (.run [oP 9 (.bin .lss (tP 8) (tP 7))]) (.seq (.cond (tP 9) (.skip) (.exit 0)) (.seq (.block 1 (.seq (.run [mP 10 8, mP 5 10]) (.seq (.run [mP 11 1, mP 12 0, mP 13 5, oP 14 (.iaSl 6 (tP 12) (tP 13)), oP 15 (.load true 6 (tP 14)), oP 16 (.callV (tP 11) [.tmp 15])]) (.cond (tP 16) (.seq (.run [mP 17 5, mP 4 17]) (.ret)) (.skip))))) (.run [oP 18 (.bin .add (tP 8) (.const (.int .i64 1))), mP 8 18]))))))) (.seq (.run [oP 4 (.move (.const (.int .i64 (-1))))]) (.ret)))⟩
theorem h_slices_IndexFunc_impl_Link_impl_Link : cFun Try.prog 118 = some c_slices_IndexFunc_impl_Link_impl_Link := by kernel_rfl

















def tb : List (Nat × AFun) := [(7, c_laws_FnExactLinksApart), (13, c_laws_szPoseGraph), (15, c_laws_toPoseGraph), (17, c_laws_eqPoseGraph), (18, c_laws_szPoseS), (20, c_laws_toPose), (21, c_laws_toPoseS), (23, c_laws_eqPoseS), (28, c_laws_eqPose), (31, c_laws_sameFloat), (32, c_spec_LinksApart), (33, c_impl_LinksApart), (41, c_laws_toLink), (47, c_laws_szLinkS), (49, c_laws_toLinkS), (55, c_laws_eqLinkS), (57, c_impl_IsFinitePose), (58, c_slices_ContainsFunc_impl_Pose_impl_Pose), (61, c_spec_l06Ok), (62, c_spec_l00In), (64, c_impl_ValidGraph), (65, c_impl_within), (72, c_spec_l06Weight), (73, c_impl_isSide), (86, c_laws_eqLink), (87, c_spec_l06Finite), (89, c_impl_isFinite), (90, c_slices_IndexFunc_impl_Pose_impl_Pose), (94, c_spec_l06Link), (96, c_impl_ValidGraph_1), (97, c_slices_ContainsFunc_impl_Link_impl_Link), (98, c_impl_ValidGraph_2), (99, c_impl_validLink), (103, c_spec_l01Finite), (110, c_spec_l01Vec), (118, c_slices_IndexFunc_impl_Link_impl_Link)]

theorem tb_ok : TbOk Try.prog tb := (.cons h_laws_FnExactLinksApart (.cons h_laws_szPoseGraph (.cons h_laws_toPoseGraph (.cons h_laws_eqPoseGraph (.cons h_laws_szPoseS (.cons h_laws_toPose (.cons h_laws_toPoseS (.cons h_laws_eqPoseS (.cons h_laws_eqPose (.cons h_laws_sameFloat (.cons h_spec_LinksApart (.cons h_impl_LinksApart (.cons h_laws_toLink (.cons h_laws_szLinkS (.cons h_laws_toLinkS (.cons h_laws_eqLinkS (.cons h_impl_IsFinitePose (.cons h_slices_ContainsFunc_impl_Pose_impl_Pose (.cons h_spec_l06Ok (.cons h_spec_l00In (.cons h_impl_ValidGraph (.cons h_impl_within (.cons h_spec_l06Weight (.cons h_impl_isSide (.cons h_laws_eqLink (.cons h_spec_l06Finite (.cons h_impl_isFinite (.cons h_slices_IndexFunc_impl_Pose_impl_Pose (.cons h_spec_l06Link (.cons h_impl_ValidGraph_1 (.cons h_slices_ContainsFunc_impl_Link_impl_Link (.cons h_impl_ValidGraph_2 (.cons h_impl_validLink (.cons h_spec_l01Finite (.cons h_spec_l01Vec (.cons h_slices_IndexFunc_impl_Link_impl_Link .nil))))))))))))))))))))))))))))))))))))

end Go.Proofs.Ytcmoeocemmeofaa
