/- The compiled code of the functions, by the theory of the texts Ab; the table of all. -/
import Derived.Test.YtnleibiniajbnaaRows
import Derived.Test.YtnleibiniajbnaaAbD
import Derived.Test.YtnleibiniajbnaaSxC
set_option linter.unusedVariables false
set_option linter.unusedSimpArgs false
namespace Go.Proofs.Ytnleibiniajbnaa
open Go.Ab
def oP (d : Nat) (op : AOp) : AOper := ⟨some d, op, none⟩
def mP (d i : Nat) : AOper := ⟨some d, .move (.tmp i), none⟩
def fP (d i x : Nat) : AOper := ⟨some d, .faddr i (.tmp x), none⟩
def lP (d x : Nat) : AOper := ⟨some d, .load false 1 (.tmp x), none⟩
def LP (d n x : Nat) : AOper := ⟨some d, .load true n (.tmp x), none⟩
def sP (n x y : Nat) : AOper := ⟨none, .store n (.tmp x) (.tmp y), none⟩
def cP (d f : Nat) (l : List Nat) : AOper := ⟨some d, .call f (l.map .tmp), none⟩
def kP (d : Nat) (a : AV) : AOper := ⟨some d, .move (.const a), none⟩
def bP (d : Nat) (b : BinOp) (x y : Nat) : AOper := ⟨some d, .bin b (.tmp x) (.tmp y), none⟩
def bC (d : Nat) (b : BinOp) (x : Nat) (a : AV) : AOper := ⟨some d, .bin b (.tmp x) (.const a), none⟩
def nP (d x : Nat) : AOper := ⟨some d, .un .not (.tmp x), none⟩
def eP (d i x : Nat) : AOper := ⟨some d, .extract i (.tmp x), none⟩
def xP (d x : Nat) : AOper := ⟨some d, .box (.tmp x), none⟩
def aP (d : Nat) (l : List AV) : AOper := ⟨some d, .alloc l, none⟩
def iP (d n m x y : Nat) : AOper := ⟨some d, .iaArr n m (.tmp x) (.tmp y), none⟩
def jP (d n x y : Nat) : AOper := ⟨some d, .iaSl n (.tmp x) (.tmp y), none⟩
def zP (d x : Nat) : AOper := ⟨some d, .len (.tmp x), none⟩
def uP (d x : Nat) : AOper := ⟨some d, .nilCheck (.tmp x), none⟩
def sR (l : List AOper) (c : ACode) : ACode := .seq (.run l) c
def z3 : List AV := [.int .i32 0, .int .i32 0, .int .i32 0]
def z9 : List AV := [.int .i32 0, .int .i32 0, .int .i32 0, .flt .f32 (some 0), .flt .f32 (some 0), .flt .f32 (some 0), .flt .f32 (some 0), .int .i64 0, .int .i64 0]
def z2 : List AV := [.flt .f32 (some 0), .nilslice]
def tP (i : Nat) : Opd := .tmp i







def c_laws_FnExactReadPacket : AFun := ⟨93, [.tmp 2], sR [kP 2 (.bool false)] (.seq (sR [mP 13 0, zP 14 13, bC 15 .gtr 14 (.int .i64 1048576)] (.cond (tP 15) (sR [kP 2 (.bool true)] (.ret)) (.skip))) (sR [mP 17 0, cP 18 33 [17], cP 19 32 [18], mP 16 19, eP 20 0 16, eP 21 1 16, mP 3 20, mP 4 21] (sR [mP 22 0, cP 23 33 [22], mP 5 23] (sR [mP 25 5, cP 26 34 [25], mP 24 26, eP 27 0 24, eP 28 1 24, mP 6 27, mP 7 28] (.seq (sR [mP 29 6, mP 30 3, cP 31 35 [29, 30], nP 32 31, mP 33 32, ⟨some 34, .move (tP 7), some (33, false)⟩, ⟨some 35, .move (tP 4), some (33, false)⟩, ⟨some 36, .bin .neq (tP 34) (tP 35), some (33, false)⟩, oP 37 (.pick (tP 33) (.const (.bool true)) (tP 36))] (.cond (tP 37) (sR [kP 2 (.bool false)] (.ret)) (.skip))) (.seq (sR [mP 38 5, mP 39 0, cP 40 33 [39], cP 41 36 [38, 40], nP 42 41] (.cond (tP 42) (sR [kP 2 (.bool false)] (.ret)) (.skip))) (sR [kP 8 (.int .i64 1)] (sR [mP 43 5, mP 44 8, cP 45 37 [43, 44], mP 8 45] (.seq (sR [mP 46 8, bC 47 .lss 46 (.int .i64 0), mP 48 47, ⟨some 49, .move (tP 6), some (48, false)⟩, ⟨some 50, .move (tP 3), some (48, false)⟩, ⟨some 51, .call 35 [.tmp 49, .tmp 50], some (48, false)⟩, ⟨some 52, .un .not (tP 51), some (48, false)⟩, oP 53 (.pick (tP 48) (.const (.bool true)) (tP 52)), mP 54 53, ⟨some 55, .move (tP 7), some (54, false)⟩, ⟨some 56, .move (tP 4), some (54, false)⟩, ⟨some 57, .bin .neq (tP 55) (tP 56), some (54, false)⟩, oP 58 (.pick (tP 54) (.const (.bool true)) (tP 57))] (.cond (tP 58) (sR [kP 2 (.bool false)] (.ret)) (.skip))) (sR [kP 9 (.int .i64 1)] (sR [mP 59 6, mP 60 9, cP 61 38 [59, 60], mP 9 61] (sR [kP 10 (.int .i64 1)] (sR [mP 62 6, mP 63 10, cP 64 39 [62, 63], mP 10 64] (.seq (sR [mP 65 10, bC 66 .lss 65 (.int .i64 0)] (.cond (tP 66) (sR [kP 2 (.bool false)] (.ret)) (.skip))) (.seq (sR [mP 67 10, mP 68 9, bP 69 .neq 67 68] (.cond (tP 69) (sR [kP 2 (.bool false)] (.ret)) (.skip))) (sR [mP 71 0, cP 72 33 [71], cP 73 34 [72], mP 70 73, eP 74 0 70, eP 75 1 70, mP 11 74, mP 12 75] (.seq (sR [mP 76 11, mP 77 3, cP 78 35 [76, 77], nP 79 78, mP 80 79, ⟨some 81, .move (tP 12), some (80, false)⟩, ⟨some 82, .move (tP 4), some (80, false)⟩, ⟨some 83, .bin .neq (tP 81) (tP 82), some (80, false)⟩, oP 84 (.pick (tP 80) (.const (.bool true)) (tP 83))] (.cond (tP 84) (sR [kP 2 (.bool false)] (.ret)) (.skip))) (sR [kP 10 (.int .i64 1)] (sR [mP 85 6, mP 86 10, cP 87 39 [85, 86], mP 10 87] (.seq (sR [mP 88 10, bC 89 .lss 88 (.int .i64 0)] (.cond (tP 89) (sR [kP 2 (.bool false)] (.ret)) (.skip))) (.seq (sR [mP 90 10, mP 91 9, bP 92 .neq 90 91] (.cond (tP 92) (sR [kP 2 (.bool false)] (.ret)) (.skip))) (sR [kP 2 (.bool true)] (.ret)))))))))))))))))))))))⟩
theorem h_laws_FnExactReadPacket : cFun Try.prog 8 = some c_laws_FnExactReadPacket := by kernel_rfl









def c_laws_eqGrid : AFun := ⟨21, [.tmp 4], sR [xP 2 0, xP 3 1, kP 4 (.bool false)] (.seq (sR [fP 5 0 2, lP 6 5, fP 7 0 3, lP 8 7, bP 9 .neq 6 8] (.cond (tP 9) (sR [kP 4 (.bool false)] (.ret)) (.skip))) (.seq (sR [fP 10 1 2, lP 11 10, fP 12 1 3, lP 13 12, bP 14 .neq 11 13] (.cond (tP 14) (sR [kP 4 (.bool false)] (.ret)) (.skip))) (.seq (sR [fP 15 2 2, lP 16 15, fP 17 2 3, lP 18 17, cP 19 36 [16, 18], nP 20 19] (.cond (tP 20) (sR [kP 4 (.bool false)] (.ret)) (.skip))) (sR [kP 4 (.bool true)] (.ret)))))⟩
theorem h_laws_eqGrid : cFun Try.prog 17 = some c_laws_eqGrid := by kernel_rfl















def c_spec_ReadPacket : AFun := ⟨130, [.tmp 2, .tmp 3], sR [kP 2 (.nilslice), kP 3 (.int .i64 0)] (.seq (sR [mP 10 0, zP 11 10, bC 12 .gtr 11 (.int .i64 2566)] (.cond (tP 12) (sR [oP 13 (.bslice 4 0 [] []), mP 2 13, kP 3 (.int .i64 2)] (.ret)) (.skip))) (.seq (sR [mP 14 0, zP 15 14, bC 16 .lss 15 (.int .i64 6), mP 17 16, ⟨some 18, .move (tP 0), some (17, false)⟩, ⟨some 19, .iaSl 1 (tP 18) (.const (.int .i64 0)), some (17, false)⟩, ⟨some 20, .load false 1 (tP 19), some (17, false)⟩, ⟨some 21, .bin .neq (tP 20) (.const (.int .u8 82)), some (17, false)⟩, oP 22 (.pick (tP 17) (.const (.bool true)) (tP 21)), mP 23 22, ⟨some 24, .move (tP 0), some (23, false)⟩, ⟨some 25, .iaSl 1 (tP 24) (.const (.int .i64 1)), some (23, false)⟩, ⟨some 26, .load false 1 (tP 25), some (23, false)⟩, ⟨some 27, .bin .neq (tP 26) (.const (.int .u8 68)), some (23, false)⟩, oP 28 (.pick (tP 23) (.const (.bool true)) (tP 27))] (.cond (tP 28) (sR [oP 29 (.bslice 4 0 [] []), mP 2 29, kP 3 (.int .i64 5)] (.ret)) (.skip))) (.seq (.mix (.node [mP 30 0, oP 31 (.iaSl 1 (tP 30) (.const (.int .i64 2))), lP 32 31, oP 33 (.conv (.ii .i64) (tP 32)), mP 34 0, oP 35 (.iaSl 1 (tP 34) (.const (.int .i64 3))), lP 36 35, oP 37 (.conv (.ii .i64) (tP 36)), oP 38 (.bin .mul (.const (.int .i64 256)) (tP 37)), bP 39 .add 33 38, mP 4 39] .nil)) (.seq (sR [mP 40 0, zP 41 40, mP 42 4, oP 43 (.bin .mul (.const (.int .i64 10)) (tP 42)), bC 44 .add 43 (.int .i64 6), bP 45 .neq 41 44] (.cond (tP 45) (sR [oP 46 (.bslice 4 0 [] []), mP 2 46, kP 3 (.int .i64 5)] (.ret)) (.skip))) (sR [oP 47 (.bslice 4 0 [] []), mP 5 47] (.seq (sR [kP 6 (.int .i64 0)] (.block 0 (.loop (.seq (sR [mP 48 6, mP 49 4, bP 50 .lss 48 49] (.cond (tP 50) (.skip) (.exit 0))) (.seq (.block 1 (sR [mP 53 6, oP 54 (.bin .mul (.const (.int .i64 10)) (tP 53)), oP 55 (.bin .add (.const (.int .i64 4)) (tP 54)), mP 7 55] (.seq (.mix (.node [mP 56 0, mP 57 7, jP 58 1 56 57, lP 59 58, oP 60 (.conv (.ii .i64) (tP 59)), mP 61 0, mP 62 7, bC 63 .add 62 (.int .i64 1), jP 64 1 61 63, lP 65 64, oP 66 (.conv (.ii .i64) (tP 65)), bC 67 .shl 66 (.int .u64 8), bP 68 .add 60 67, mP 69 0, mP 70 7, bC 71 .add 70 (.int .i64 2), jP 72 1 69 71, lP 73 72, oP 74 (.conv (.ii .i64) (tP 73)), bC 75 .shl 74 (.int .u64 16), bP 76 .add 68 75, mP 77 0, mP 78 7, bC 79 .add 78 (.int .i64 3), jP 80 1 77 79, lP 81 80, oP 82 (.conv (.ii .i64) (tP 81)), bC 83 .shl 82 (.int .u64 24), bP 84 .add 76 83, oP 85 (.build [.int .i64 0, .int .i16 0, .int .i16 0, .int .i16 0] [(0, 1, .tmp 84)]), aP 8 [.int .i64 0, .int .i16 0, .int .i16 0, .int .i16 0]] (.cons true (sP 4 8 85) (.node [] .nil) .nil))) (.seq (sR [kP 9 (.int .i64 0)] (.block 2 (.loop (.seq (sR [mP 86 9, bC 87 .lss 86 (.int .i64 3)] (.cond (tP 87) (.skip) (.exit 2))) (.seq (.block 3 (.mix (.node [mP 90 9, mP 91 0, mP 92 7, bC 93 .add 92 (.int .i64 4), mP 94 9, oP 95 (.bin .mul (.const (.int .i64 2)) (tP 94)), bP 96 .add 93 95, jP 97 1 91 96, lP 98 97, oP 99 (.conv (.ii .u16) (tP 98)), mP 100 0, mP 101 7, bC 102 .add 101 (.int .i64 5), mP 103 9, oP 104 (.bin .mul (.const (.int .i64 2)) (tP 103)), bP 105 .add 102 104, jP 106 1 100 105, lP 107 106, oP 108 (.conv (.ii .u16) (tP 107)), bC 109 .shl 108 (.int .u64 8), bP 110 .add 99 109, oP 111 (.conv (.ii .i16) (tP 110)), fP 112 1 8, iP 113 3 1 112 90] (.cons true (sP 1 113 111) (.node [] .nil) .nil)))) (.run [mP 88 9, bC 89 .add 88 (.int .i64 1), mP 9 89])))))) (.run [mP 114 5, LP 115 4 8, oP 116 (.bslice 4 1 [.int .i64 0, .int .i16 0, .int .i16 0, .int .i16 0] [(0, 4, .tmp 115)]), oP 117 (.append 4 16 (tP 114) (tP 116)), mP 5 117]))))) (.run [mP 51 6, bC 52 .add 51 (.int .i64 1), mP 6 52])))))) (.seq (sR [mP 118 5, cP 119 78 [118], nP 120 119] (.cond (tP 120) (sR [oP 121 (.bslice 4 0 [] []), mP 2 121, kP 3 (.int .i64 5)] (.ret)) (.skip))) (.seq (.seq (.mix (.node [mP 122 5, mP 125 0, oP 126 (.conv (.bs) (tP 125))] (.cons false (cP 123 79 [122]) (.node [oP 124 (.conv (.bs) (tP 123)), bP 127 .neq 124 126] .nil) .nil))) (.cond (tP 127) (sR [oP 128 (.bslice 4 0 [] []), mP 2 128, kP 3 (.int .i64 8)] (.ret)) (.skip))) (sR [mP 129 5, mP 2 129, kP 3 (.int .i64 0)] (.ret))))))))))⟩
theorem h_spec_ReadPacket : cFun Try.prog 32 = some c_spec_ReadPacket := by kernel_rfl

def c_laws_toByteS : AFun := ⟨22, [.tmp 2], sR [kP 2 (.nilslice)] (sR [mP 5 0, zP 6 5, oP 7 (.mkSlice 1 1 [.int .u8 0] (tP 6) (tP 6)), mP 3 7] (.seq (sR [kP 4 (.int .i64 0)] (.block 0 (.loop (.seq (sR [mP 8 4, mP 9 0, zP 10 9, bP 11 .lss 8 10] (.cond (tP 11) (.skip) (.exit 0))) (.seq (.block 1 (.run [mP 14 3, mP 15 4, mP 16 0, mP 17 4, jP 18 1 16 17, lP 19 18, jP 20 1 14 15, sP 1 20 19])) (.run [mP 12 4, bC 13 .add 12 (.int .i64 1), mP 4 13])))))) (sR [mP 21 3, mP 2 21] (.ret))))⟩
theorem h_laws_toByteS : cFun Try.prog 33 = some c_laws_toByteS := by kernel_rfl

def c_impl_ReadPacket : AFun := ⟨84, [.tmp 2, .tmp 3], sR [kP 2 (.nilslice), kP 3 (.int .i64 0)] (sR [mP 9 0, zP 10 9, mP 4 10] (.seq (.block 0 (sR [mP 12 4, bC 13 .gtr 12 (.int .i64 2566), mP 11 13] (.cond (tP 11) (sR [kP 2 (.nilslice), kP 3 (.int .i64 2)] (.ret)) (sR [mP 15 4, bC 16 .lss 15 (.int .i64 6), mP 17 16, ⟨some 18, .move (tP 0), some (17, false)⟩, ⟨some 19, .slSl 1 (tP 18) none (some (.const (.int .i64 2))) none, some (17, false)⟩, ⟨some 20, .conv (.bs) (tP 19), some (17, false)⟩, ⟨some 21, .bin .neq (tP 20) (.const (.str [82, 68])), some (17, false)⟩, oP 22 (.pick (tP 17) (.const (.bool true)) (tP 21)), mP 23 22, ⟨some 24, .move (tP 4), some (23, false)⟩, ⟨some 25, .move (tP 0), some (23, false)⟩, ⟨some 26, .slSl 1 (tP 25) (some (.const (.int .i64 2))) (some (.const (.int .i64 4))) none, some (23, false)⟩, ⟨some 27, .call 80 [.tmp 26], some (23, false)⟩, ⟨some 28, .bin .mul (.const (.int .i64 10)) (tP 27), some (23, false)⟩, ⟨some 29, .bin .add (tP 28) (.const (.int .i64 6)), some (23, false)⟩, ⟨some 30, .bin .neq (tP 24) (tP 29), some (23, false)⟩, oP 31 (.pick (tP 23) (.const (.bool true)) (tP 30)), mP 14 31] (.cond (tP 14) (sR [kP 2 (.nilslice), kP 3 (.int .i64 5)] (.ret)) (.skip)))))) (sR [oP 32 (.bslice 4 0 [] []), mP 5 32] (.seq (sR [kP 6 (.int .i64 4)] (.block 1 (.loop (.seq (sR [mP 33 6, mP 34 4, bC 35 .sub 34 (.int .i64 2), bP 36 .lss 33 35] (.cond (tP 36) (.skip) (.exit 1))) (.seq (.block 2 (sR [mP 39 0, mP 40 6, mP 41 6, bC 42 .add 41 (.int .i64 4), oP 43 (.slSl 1 (tP 39) (some (tP 40)) (some (tP 42)) none), cP 44 80 [43], oP 45 (.build [.int .i64 0, .int .i16 0, .int .i16 0, .int .i16 0] [(0, 1, .tmp 44)]), aP 7 [.int .i64 0, .int .i16 0, .int .i16 0, .int .i16 0], sP 4 7 45] (.seq (sR [kP 46 (.int .i64 0)] (.block 3 (.loop (sR [bC 47 .lss 46 (.int .i64 3)] (.seq (.cond (tP 47) (.skip) (.exit 3)) (.seq (.block 4 (sR [mP 48 46, mP 8 48] (.run [mP 49 8, mP 50 0, mP 51 6, bC 52 .add 51 (.int .i64 4), mP 53 8, oP 54 (.bin .mul (.const (.int .i64 2)) (tP 53)), bP 55 .add 52 54, mP 56 6, bC 57 .add 56 (.int .i64 6), mP 58 8, oP 59 (.bin .mul (.const (.int .i64 2)) (tP 58)), bP 60 .add 57 59, oP 61 (.slSl 1 (tP 50) (some (tP 55)) (some (tP 60)) none), cP 62 80 [61], oP 63 (.conv (.ii .i16) (tP 62)), fP 64 1 7, iP 65 3 1 64 49, sP 1 65 63]))) (.run [bC 66 .add 46 (.int .i64 1), mP 46 66]))))))) (.run [mP 67 5, LP 68 4 7, oP 69 (.bslice 4 1 [.int .i64 0, .int .i16 0, .int .i16 0, .int .i16 0] [(0, 4, .tmp 68)]), oP 70 (.append 4 16 (tP 67) (tP 69)), mP 5 70])))) (.run [mP 37 6, bC 38 .add 37 (.int .i64 10), mP 6 38])))))) (.seq (sR [mP 71 5, cP 72 62 [71], nP 73 72] (.cond (tP 73) (sR [kP 2 (.nilslice), kP 3 (.int .i64 5)] (.ret)) (.skip))) (.seq (sR [mP 74 0, mP 75 4, bC 76 .sub 75 (.int .i64 2), oP 77 (.slSl 1 (tP 74) none (some (tP 76)) none), cP 78 82 [77], cP 79 81 [78], mP 80 0, cP 81 72 [79, 80], nP 82 81] (.cond (tP 82) (sR [kP 2 (.nilslice), kP 3 (.int .i64 8)] (.ret)) (.skip))) (sR [mP 83 5, mP 2 83, kP 3 (.int .i64 0)] (.ret))))))))⟩
theorem h_impl_ReadPacket : cFun Try.prog 34 = some c_impl_ReadPacket := by kernel_rfl

def c_laws_eqReadingS : AFun := ⟨27, [.tmp 4], sR [kP 4 (.bool false)] (.seq (sR [mP 6 0, zP 7 6, mP 8 1, zP 9 8, bP 10 .neq 7 9] (.cond (tP 10) (sR [kP 4 (.bool false)] (.ret)) (.skip))) (.seq (sR [kP 5 (.int .i64 0)] (.block 0 (.loop (.seq (sR [mP 11 5, mP 12 0, zP 13 12, bP 14 .lss 11 13] (.cond (tP 14) (.skip) (.exit 0))) (.seq (.block 1 (.seq (.mix (.node [mP 17 0, mP 18 5, jP 19 4 17 18, LP 20 4 19, mP 21 1, mP 22 5, jP 23 4 21 22, LP 24 4 23] (.cons true (cP 25 83 [20, 24]) (.node [nP 26 25] .nil) .nil))) (.cond (tP 26) (sR [kP 4 (.bool false)] (.ret)) (.skip)))) (.run [mP 15 5, bC 16 .add 15 (.int .i64 1), mP 5 16])))))) (sR [kP 4 (.bool true)] (.ret))))⟩
theorem h_laws_eqReadingS : cFun Try.prog 35 = some c_laws_eqReadingS := by kernel_rfl

def c_laws_eqByteS : AFun := ⟨26, [.tmp 4], sR [kP 4 (.bool false)] (.seq (sR [mP 6 0, zP 7 6, mP 8 1, zP 9 8, bP 10 .neq 7 9] (.cond (tP 10) (sR [kP 4 (.bool false)] (.ret)) (.skip))) (.seq (sR [kP 5 (.int .i64 0)] (.block 0 (.loop (.seq (sR [mP 11 5, mP 12 0, zP 13 12, bP 14 .lss 11 13] (.cond (tP 14) (.skip) (.exit 0))) (.seq (.block 1 (.seq (.mix (.node [mP 17 0, mP 18 5, jP 19 1 17 18, lP 20 19, mP 21 1, mP 22 5, jP 23 1 21 22, lP 24 23, bP 25 .neq 20 24] .nil)) (.cond (tP 25) (sR [kP 4 (.bool false)] (.ret)) (.skip)))) (.run [mP 15 5, bC 16 .add 15 (.int .i64 1), mP 5 16])))))) (sR [kP 4 (.bool true)] (.ret))))⟩
theorem h_laws_eqByteS : cFun Try.prog 36 = some c_laws_eqByteS := by kernel_rfl

def c_laws_markByteS : AFun := ⟨20, [.tmp 4], sR [kP 4 (.int .i64 0)] (.seq (sR [kP 5 (.int .i64 0)] (.block 0 (.loop (.seq (sR [mP 6 5, mP 7 0, zP 8 7, bP 9 .lss 6 8] (.cond (tP 9) (.skip) (.exit 0))) (.seq (.block 1 (sR [mP 12 0, mP 13 5, mP 14 1, oP 15 (.conv (.ii .u8) (tP 14)), jP 16 1 12 13, sP 1 16 15] (.run [mP 17 1, bC 18 .add 17 (.int .i64 1), mP 1 18]))) (.run [mP 10 5, bC 11 .add 10 (.int .i64 1), mP 5 11])))))) (sR [mP 19 1, mP 4 19] (.ret)))⟩
theorem h_laws_markByteS : cFun Try.prog 37 = some c_laws_markByteS := by kernel_rfl

def c_laws_markReadingS : AFun := ⟨35, [.tmp 4], sR [kP 4 (.int .i64 0)] (.seq (sR [kP 5 (.int .i64 0)] (.block 0 (.loop (.seq (sR [mP 7 5, mP 8 0, zP 9 8, bP 10 .lss 7 9] (.cond (tP 10) (.skip) (.exit 0))) (.seq (.block 1 (sR [mP 13 0, mP 14 5, mP 15 1, jP 16 4 13 14, fP 17 0 16, sP 1 17 15] (sR [mP 18 1, bC 19 .add 18 (.int .i64 1), mP 1 19] (sR [kP 6 (.int .i64 0)] (.block 2 (.loop (.seq (sR [mP 20 6, bC 21 .lss 20 (.int .i64 3)] (.cond (tP 21) (.skip) (.exit 2))) (.seq (.block 3 (sR [mP 24 0, mP 25 5, mP 26 6, mP 27 1, oP 28 (.conv (.ii .i16) (tP 27)), jP 29 4 24 25, fP 30 1 29, iP 31 3 1 30 26, sP 1 31 28] (.run [mP 32 1, bC 33 .add 32 (.int .i64 1), mP 1 33]))) (.run [mP 22 6, bC 23 .add 22 (.int .i64 1), mP 6 23]))))))))) (.run [mP 11 5, bC 12 .add 11 (.int .i64 1), mP 5 12])))))) (sR [mP 34 1, mP 4 34] (.ret)))⟩
theorem h_laws_markReadingS : cFun Try.prog 38 = some c_laws_markReadingS := by kernel_rfl

def c_laws_heldReadingS : AFun := ⟨39, [.tmp 4], sR [kP 4 (.int .i64 0)] (.seq (sR [kP 5 (.int .i64 0)] (.block 0 (.loop (.seq (sR [mP 7 5, mP 8 0, zP 9 8, bP 10 .lss 7 9] (.cond (tP 10) (.skip) (.exit 0))) (.seq (.block 1 (.seq (sR [mP 13 0, mP 14 5, jP 15 4 13 14, fP 16 0 15, lP 17 16, mP 18 1, bP 19 .neq 17 18] (.cond (tP 19) (sR [kP 4 (.int .i64 (-1))] (.ret)) (.skip))) (sR [mP 20 1, bC 21 .add 20 (.int .i64 1), mP 1 21] (sR [kP 6 (.int .i64 0)] (.block 2 (.loop (.seq (sR [mP 22 6, bC 23 .lss 22 (.int .i64 3)] (.cond (tP 23) (.skip) (.exit 2))) (.seq (.block 3 (.seq (sR [mP 26 0, mP 27 5, mP 28 6, jP 29 4 26 27, fP 30 1 29, iP 31 3 1 30 28, lP 32 31, mP 33 1, oP 34 (.conv (.ii .i16) (tP 33)), bP 35 .neq 32 34] (.cond (tP 35) (sR [kP 4 (.int .i64 (-1))] (.ret)) (.skip))) (.run [mP 36 1, bC 37 .add 36 (.int .i64 1), mP 1 37]))) (.run [mP 24 6, bC 25 .add 24 (.int .i64 1), mP 6 25]))))))))) (.run [mP 11 5, bC 12 .add 11 (.int .i64 1), mP 5 12])))))) (sR [mP 38 1, mP 4 38] (.ret)))⟩
theorem h_laws_heldReadingS : cFun Try.prog 39 = some c_laws_heldReadingS := by kernel_rfl





















def c_impl_ValidFeed : AFun := ⟨35, [.tmp 2], sR [kP 2 (.bool false)] (.seq (sR [mP 5 0, zP 6 5, kP 7 (.int .i64 0)] (.block 0 (.loop (sR [bP 8 .lss 7 6] (.seq (.cond (tP 8) (.skip) (.exit 0)) (.seq (.block 1 (sR [mP 9 7, jP 10 4 5 7, LP 11 4 10, aP 4 [.int .i64 0, .int .i16 0, .int .i16 0, .int .i16 0], mP 3 9, sP 4 4 11] (.seq (.mix (.node [fP 12 0 4, lP 13 12] (.cons true (cP 14 93 [13]) (.node [nP 15 14, mP 16 15, ⟨some 17, .move (tP 3), some (16, false)⟩, ⟨some 18, .bin .gtr (tP 17) (.const (.int .i64 0)), some (16, false)⟩, ⟨some 19, .move (tP 18), some (16, false)⟩, ⟨some 20, .faddr 0 (tP 4), some (19, true)⟩, ⟨some 21, .load false 1 (tP 20), some (19, true)⟩, ⟨some 22, .move (tP 0), some (19, true)⟩, ⟨some 23, .move (tP 3), some (19, true)⟩, ⟨some 24, .bin .sub (tP 23) (.const (.int .i64 1)), some (19, true)⟩, ⟨some 25, .iaSl 4 (tP 22) (tP 24), some (19, true)⟩, ⟨some 26, .faddr 0 (tP 25), some (19, true)⟩, ⟨some 27, .load false 1 (tP 26), some (19, true)⟩, ⟨some 28, .bin .leq (tP 21) (tP 27), some (19, true)⟩, ⟨some 29, .pick (tP 19) (tP 28) (.const (.bool false)), some (16, false)⟩, oP 30 (.pick (tP 16) (.const (.bool true)) (tP 29))] .nil) .nil))) (.cond (tP 30) (sR [kP 2 (.bool false)] (.ret)) (.skip))))) (.run [bC 31 .add 7 (.int .i64 1), mP 7 31]))))))) (sR [mP 32 0, zP 33 32, bC 34 .leq 33 (.int .i64 256), mP 2 34] (.ret)))⟩
theorem h_impl_ValidFeed : cFun Try.prog 62 = some c_impl_ValidFeed := by kernel_rfl







def c_impl_within : AFun := ⟨15, [.tmp 6], sR [kP 6 (.bool false)] (sR [mP 7 0, mP 8 1, bP 9 .geq 7 8, mP 10 9, ⟨some 11, .move (tP 0), some (10, true)⟩, ⟨some 12, .move (tP 2), some (10, true)⟩, ⟨some 13, .bin .leq (tP 11) (tP 12), some (10, true)⟩, oP 14 (.pick (tP 10) (tP 13) (.const (.bool false))), mP 6 14] (.ret))⟩
theorem h_impl_within : cFun Try.prog 69 = some c_impl_within := by kernel_rfl

def c_spec_l00In : AFun := ⟨15, [.tmp 6], sR [kP 6 (.bool false)] (sR [mP 7 0, mP 8 1, bP 9 .geq 7 8, mP 10 9, ⟨some 11, .move (tP 0), some (10, true)⟩, ⟨some 12, .move (tP 2), some (10, true)⟩, ⟨some 13, .bin .leq (tP 11) (tP 12), some (10, true)⟩, oP 14 (.pick (tP 10) (tP 13) (.const (.bool false))), mP 6 14] (.ret))⟩
theorem h_spec_l00In : cFun Try.prog 70 = some c_spec_l00In := by kernel_rfl


def c_slices_Equal_uint8_uint8 : AFun := ⟨26, [.tmp 4], sR [kP 4 (.bool false)] (.seq (sR [mP 6 0, zP 7 6, mP 8 1, zP 9 8, bP 10 .neq 7 9] (.cond (tP 10) (sR [kP 4 (.bool false)] (.ret)) (.skip))) (.seq (sR [mP 11 0, zP 12 11, kP 13 (.int .i64 0)] (.block 0 (.loop (sR [bP 14 .lss 13 12] (.seq (.cond (tP 14) (.skip) (.exit 0)) (.seq (.block 1 (sR [mP 15 13, mP 5 15] (.seq (.mix (.node [mP 16 0, mP 17 5, jP 18 1 16 17, lP 19 18, mP 20 1, mP 21 5, jP 22 1 20 21, lP 23 22, bP 24 .neq 19 23] .nil)) (.cond (tP 24) (sR [kP 4 (.bool false)] (.ret)) (.skip))))) (.run [bC 25 .add 13 (.int .i64 1), mP 13 25]))))))) (sR [kP 4 (.bool true)] (.ret))))⟩
theorem h_slices_Equal_uint8_uint8 : cFun Try.prog 72 = some c_slices_Equal_uint8_uint8 := by kernel_rfl






def c_spec_l04Feed : AFun := ⟨38, [.tmp 2], sR [kP 2 (.bool false)] (.seq (sR [kP 3 (.int .i64 0)] (.block 0 (.loop (.seq (sR [mP 4 3, mP 5 0, zP 6 5, bP 7 .lss 4 6] (.cond (tP 7) (.skip) (.exit 0))) (.seq (.block 1 (.seq (.mix (.node [mP 10 0, mP 11 3, jP 12 4 10 11, fP 13 0 12, lP 14 13] (.cons true (cP 15 91 [14]) (.node [nP 16 15, mP 17 16, ⟨some 18, .move (tP 3), some (17, false)⟩, ⟨some 19, .bin .gtr (tP 18) (.const (.int .i64 0)), some (17, false)⟩, ⟨some 20, .move (tP 19), some (17, false)⟩, ⟨some 21, .move (tP 0), some (20, true)⟩, ⟨some 22, .move (tP 3), some (20, true)⟩, ⟨some 23, .bin .sub (tP 22) (.const (.int .i64 1)), some (20, true)⟩, ⟨some 24, .iaSl 4 (tP 21) (tP 23), some (20, true)⟩, ⟨some 25, .faddr 0 (tP 24), some (20, true)⟩, ⟨some 26, .load false 1 (tP 25), some (20, true)⟩, ⟨some 27, .move (tP 0), some (20, true)⟩, ⟨some 28, .move (tP 3), some (20, true)⟩, ⟨some 29, .iaSl 4 (tP 27) (tP 28), some (20, true)⟩, ⟨some 30, .faddr 0 (tP 29), some (20, true)⟩, ⟨some 31, .load false 1 (tP 30), some (20, true)⟩, ⟨some 32, .bin .geq (tP 26) (tP 31), some (20, true)⟩, ⟨some 33, .pick (tP 20) (tP 32) (.const (.bool false)), some (17, false)⟩, oP 34 (.pick (tP 17) (.const (.bool true)) (tP 33))] .nil) .nil))) (.cond (tP 34) (sR [kP 2 (.bool false)] (.ret)) (.skip)))) (.run [mP 8 3, bC 9 .add 8 (.int .i64 1), mP 3 9])))))) (sR [mP 35 0, zP 36 35, bC 37 .leq 36 (.int .i64 256), mP 2 37] (.ret)))⟩
theorem h_spec_l04Feed : cFun Try.prog 78 = some c_spec_l04Feed := by kernel_rfl

def c_spec_l04Packet : AFun := ⟨86, [.tmp 2], sR [kP 2 (.nilslice)] (sR [mP 11 0, zP 12 11, mP 3 12] (sR [mP 13 3, oP 14 (.conv (.ii .u8) (tP 13)), mP 15 3, bC 16 .shr 15 (.int .u64 8), oP 17 (.conv (.ii .u8) (tP 16)), oP 18 (.bslice 1 4 [.int .u8 0, .int .u8 0, .int .u8 0, .int .u8 0] [(0, 1, .const (.int .u8 82)), (1, 1, .const (.int .u8 68)), (2, 1, .tmp 14), (3, 1, .tmp 17)]), mP 4 18] (.seq (sR [kP 5 (.int .i64 0)] (.block 0 (.loop (.seq (sR [mP 19 5, mP 20 3, bP 21 .lss 19 20] (.cond (tP 21) (.skip) (.exit 0))) (.seq (.block 1 (sR [mP 24 0, mP 25 5, jP 26 4 24 25, fP 27 0 26, lP 28 27, mP 6 28] (sR [mP 29 4, mP 30 6, oP 31 (.conv (.ii .u8) (tP 30)), mP 32 6, bC 33 .shr 32 (.int .u64 8), oP 34 (.conv (.ii .u8) (tP 33)), mP 35 6, bC 36 .shr 35 (.int .u64 16), oP 37 (.conv (.ii .u8) (tP 36)), mP 38 6, bC 39 .shr 38 (.int .u64 24), oP 40 (.conv (.ii .u8) (tP 39)), oP 41 (.bslice 1 4 [.int .u8 0, .int .u8 0, .int .u8 0, .int .u8 0] [(0, 1, .tmp 31), (1, 1, .tmp 34), (2, 1, .tmp 37), (3, 1, .tmp 40)]), oP 42 (.append 1 1 (tP 29) (tP 41)), mP 4 42] (sR [kP 7 (.int .i64 0)] (.block 2 (.loop (.seq (sR [mP 43 7, bC 44 .lss 43 (.int .i64 3)] (.cond (tP 44) (.skip) (.exit 2))) (.seq (.block 3 (sR [mP 47 0, mP 48 5, mP 49 7, jP 50 4 47 48, fP 51 1 50, iP 52 3 1 51 49, lP 53 52, oP 54 (.conv (.ii .u16) (tP 53)), mP 8 54] (.run [mP 55 4, mP 56 8, oP 57 (.conv (.ii .u8) (tP 56)), mP 58 8, bC 59 .shr 58 (.int .u64 8), oP 60 (.conv (.ii .u8) (tP 59)), oP 61 (.bslice 1 2 [.int .u8 0, .int .u8 0] [(0, 1, .tmp 57), (1, 1, .tmp 60)]), oP 62 (.append 1 1 (tP 55) (tP 61)), mP 4 62]))) (.run [mP 45 7, bC 46 .add 45 (.int .i64 1), mP 7 46]))))))))) (.run [mP 22 5, bC 23 .add 22 (.int .i64 1), mP 5 23])))))) (sR [kP 9 (.int .i64 0)] (.seq (sR [kP 10 (.int .i64 0)] (.block 4 (.loop (.seq (sR [mP 63 10, mP 64 4, zP 65 64, bP 66 .lss 63 65] (.cond (tP 66) (.skip) (.exit 4))) (.seq (.block 5 (.run [mP 69 9, mP 70 4, mP 71 10, jP 72 1 70 71, lP 73 72, oP 74 (.conv (.ii .i64) (tP 73)), bP 75 .add 69 74, mP 9 75])) (.run [mP 67 10, bC 68 .add 67 (.int .i64 1), mP 10 68])))))) (sR [mP 76 9, bC 77 .rem 76 (.int .i64 65521), mP 9 77] (sR [mP 78 4, mP 79 9, oP 80 (.conv (.ii .u8) (tP 79)), mP 81 9, bC 82 .shr 81 (.int .u64 8), oP 83 (.conv (.ii .u8) (tP 82)), oP 84 (.bslice 1 2 [.int .u8 0, .int .u8 0] [(0, 1, .tmp 80), (1, 1, .tmp 83)]), oP 85 (.append 1 1 (tP 78) (tP 84)), mP 2 85] (.ret))))))))⟩
theorem h_spec_l04Packet : cFun Try.prog 79 = some c_spec_l04Packet := by kernel_rfl

def c_impl_number : AFun := ⟨22, [.tmp 2], sR [kP 2 (.int .i64 0)] (sR [kP 3 (.int .i64 0)] (.seq (sR [mP 6 0, zP 7 6, kP 8 (.int .i64 0)] (.block 0 (.loop (sR [bP 9 .lss 8 7] (.seq (.cond (tP 9) (.skip) (.exit 0)) (.seq (.block 1 (sR [mP 10 8, jP 11 1 6 8, lP 12 11, mP 4 10, mP 5 12] (.run [mP 13 3, mP 14 5, oP 15 (.conv (.ii .i64) (tP 14)), mP 16 4, oP 17 (.bin .mul (.const (.int .i64 8)) (tP 16)), bP 18 .shl 15 17, bP 19 .or 13 18, mP 3 19]))) (.run [bC 20 .add 8 (.int .i64 1), mP 8 20]))))))) (sR [mP 21 3, mP 2 21] (.ret))))⟩
theorem h_impl_number : cFun Try.prog 80 = some c_impl_number := by kernel_rfl

def c_impl_checked : AFun := ⟨22, [.tmp 2], sR [kP 2 (.nilslice)] (sR [kP 3 (.int .i64 0)] (.seq (sR [mP 6 0, zP 7 6, kP 8 (.int .i64 0)] (.block 0 (.loop (sR [bP 9 .lss 8 7] (.seq (.cond (tP 9) (.skip) (.exit 0)) (.seq (.block 1 (sR [jP 10 1 6 8, lP 11 10, mP 5 11] (.run [mP 12 3, mP 13 5, oP 14 (.conv (.ii .i64) (tP 13)), bP 15 .add 12 14, mP 3 15]))) (.run [bC 16 .add 8 (.int .i64 1), mP 8 16]))))))) (sR [mP 17 0, mP 18 3, bC 19 .rem 18 (.int .i64 65521), oP 20 (.call 106 [.tmp 19, .const (.int .i64 2)]), oP 21 (.append 1 1 (tP 17) (tP 20)), mP 2 21] (.ret))))⟩
theorem h_impl_checked : cFun Try.prog 81 = some c_impl_checked := by kernel_rfl

def c_slices_Clone_byte_byte : AFun := ⟨8, [.tmp 2], sR [kP 2 (.nilslice)] (.seq (sR [mP 3 0, oP 4 (.eqNilS false (tP 3) (.const (.nilslice)))] (.cond (tP 4) (sR [kP 2 (.nilslice)] (.ret)) (.skip))) (sR [oP 5 (.bslice 1 0 [] []), mP 6 0, oP 7 (.append 1 1 (tP 5) (tP 6)), mP 2 7] (.ret)))⟩
theorem h_slices_Clone_byte_byte : cFun Try.prog 82 = some c_slices_Clone_byte_byte := by kernel_rfl

def c_laws_eqReading : AFun := ⟨16, [.tmp 4], sR [xP 2 0, xP 3 1, kP 4 (.bool false)] (.seq (sR [fP 5 0 2, lP 6 5, fP 7 0 3, lP 8 7, bP 9 .neq 6 8] (.cond (tP 9) (sR [kP 4 (.bool false)] (.ret)) (.skip))) (.seq (sR [fP 10 1 2, LP 11 3 10, fP 12 1 3, LP 13 3 12, cP 14 115 [11, 13], nP 15 14] (.cond (tP 15) (sR [kP 4 (.bool false)] (.ret)) (.skip))) (sR [kP 4 (.bool true)] (.ret))))⟩
theorem h_laws_eqReading : cFun Try.prog 83 = some c_laws_eqReading := by kernel_rfl








def c_spec_l04Time : AFun := ⟨5, [.tmp 2], sR [kP 2 (.bool false)] (sR [mP 3 0, oP 4 (.call 70 [.tmp 3, .const (.int .i64 0), .const (.int .i64 1000000000)]), mP 2 4] (.ret))⟩
theorem h_spec_l04Time : cFun Try.prog 91 = some c_spec_l04Time := by kernel_rfl


def c_impl_isTime : AFun := ⟨5, [.tmp 2], sR [kP 2 (.bool false)] (sR [mP 3 0, oP 4 (.call 69 [.tmp 3, .const (.int .i64 0), .const (.int .i64 1000000000)]), mP 2 4] (.ret))⟩
theorem h_impl_isTime : cFun Try.prog 93 = some c_impl_isTime := by kernel_rfl













def c_impl_little : AFun := ⟨19, [.tmp 4], sR [kP 4 (.nilslice)] (sR [oP 6 (.bslice 1 0 [] []), mP 5 6] (.seq (sR [mP 7 1, kP 8 (.int .i64 0)] (.block 0 (.loop (sR [bP 9 .lss 8 7] (.seq (.cond (tP 9) (.skip) (.exit 0)) (.seq (.block 1 (sR [mP 10 5, mP 11 0, oP 12 (.conv (.ii .u8) (tP 11)), oP 13 (.bslice 1 1 [.int .u8 0] [(0, 1, .tmp 12)]), oP 14 (.append 1 1 (tP 10) (tP 13)), mP 5 14] (.run [mP 15 0, bC 16 .shr 15 (.int .u64 8), mP 0 16]))) (.run [bC 17 .add 8 (.int .i64 1), mP 8 17]))))))) (sR [mP 18 5, mP 4 18] (.ret))))⟩
theorem h_impl_little : cFun Try.prog 106 = some c_impl_little := by kernel_rfl









def c_laws_eqCounts : AFun := ⟨17, [.tmp 4], sR [xP 2 0, xP 3 1, kP 4 (.bool false)] (.seq (sR [kP 5 (.int .i64 0)] (.block 0 (.loop (.seq (sR [mP 6 5, bC 7 .lss 6 (.int .i64 3)] (.cond (tP 7) (.skip) (.exit 0))) (.seq (.block 1 (.seq (.mix (.node [mP 10 5, iP 11 3 1 2 10, lP 12 11, mP 13 5, iP 14 3 1 3 13, lP 15 14, bP 16 .neq 12 15] .nil)) (.cond (tP 16) (sR [kP 4 (.bool false)] (.ret)) (.skip)))) (.run [mP 8 5, bC 9 .add 8 (.int .i64 1), mP 5 9])))))) (sR [kP 4 (.bool true)] (.ret)))⟩
theorem h_laws_eqCounts : cFun Try.prog 115 = some c_laws_eqCounts := by kernel_rfl





















def tb : List (Nat × AFun) := [(8, c_laws_FnExactReadPacket), (17, c_laws_eqGrid), (32, c_spec_ReadPacket), (33, c_laws_toByteS), (34, c_impl_ReadPacket), (35, c_laws_eqReadingS), (36, c_laws_eqByteS), (37, c_laws_markByteS), (38, c_laws_markReadingS), (39, c_laws_heldReadingS), (62, c_impl_ValidFeed), (69, c_impl_within), (70, c_spec_l00In), (72, c_slices_Equal_uint8_uint8), (78, c_spec_l04Feed), (79, c_spec_l04Packet), (80, c_impl_number), (81, c_impl_checked), (82, c_slices_Clone_byte_byte), (83, c_laws_eqReading), (91, c_spec_l04Time), (93, c_impl_isTime), (106, c_impl_little), (115, c_laws_eqCounts)]

theorem tb_ok : TbOk Try.prog tb := (.cons h_laws_FnExactReadPacket (.cons h_laws_eqGrid (.cons h_spec_ReadPacket (.cons h_laws_toByteS (.cons h_impl_ReadPacket (.cons h_laws_eqReadingS (.cons h_laws_eqByteS (.cons h_laws_markByteS (.cons h_laws_markReadingS (.cons h_laws_heldReadingS (.cons h_impl_ValidFeed (.cons h_impl_within (.cons h_spec_l00In (.cons h_slices_Equal_uint8_uint8 (.cons h_spec_l04Feed (.cons h_spec_l04Packet (.cons h_impl_number (.cons h_impl_checked (.cons h_slices_Clone_byte_byte (.cons h_laws_eqReading (.cons h_spec_l04Time (.cons h_impl_isTime (.cons h_impl_little (.cons h_laws_eqCounts .nil))))))))))))))))))))))))

end Go.Proofs.Ytnleibiniajbnaa
