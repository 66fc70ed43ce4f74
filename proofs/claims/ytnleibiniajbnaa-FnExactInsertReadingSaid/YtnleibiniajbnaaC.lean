/- The compiled code of the functions, by the theory of the texts Ab; the table of all. -/
import Derived.Test.YtnleibiniajbnaaRows
import Derived.Test.YtnleibiniajbnaaAbD
import Derived.Test.YtnleibiniajbnaaSxC
set_option linter.unusedVariables false
set_option linter.unusedSimpArgs false
namespace Go.Proofs.Ytnleibiniajbnaa
open Go.Ab
def oP (d : Nat) (op : AOp) : AOper := ⟨some d, op, none⟩
def mP (d i : Nat) : AOper := ⟨some d, .move (.tmp i), none⟩
def fP (d i x : Nat) : AOper := ⟨some d, .faddr i (.tmp x), none⟩
def lP (d x : Nat) : AOper := ⟨some d, .load false 1 (.tmp x), none⟩
def LP (d n x : Nat) : AOper := ⟨some d, .load true n (.tmp x), none⟩
def sP (n x y : Nat) : AOper := ⟨none, .store n (.tmp x) (.tmp y), none⟩
def cP (d f : Nat) (l : List Nat) : AOper := ⟨some d, .call f (l.map .tmp), none⟩
def kP (d : Nat) (a : AV) : AOper := ⟨some d, .move (.const a), none⟩
def bP (d : Nat) (b : BinOp) (x y : Nat) : AOper := ⟨some d, .bin b (.tmp x) (.tmp y), none⟩
def bC (d : Nat) (b : BinOp) (x : Nat) (a : AV) : AOper := ⟨some d, .bin b (.tmp x) (.const a), none⟩
def nP (d x : Nat) : AOper := ⟨some d, .un .not (.tmp x), none⟩
def eP (d i x : Nat) : AOper := ⟨some d, .extract i (.tmp x), none⟩
def xP (d x : Nat) : AOper := ⟨some d, .box (.tmp x), none⟩
def aP (d : Nat) (l : List AV) : AOper := ⟨some d, .alloc l, none⟩
def iP (d n m x y : Nat) : AOper := ⟨some d, .iaArr n m (.tmp x) (.tmp y), none⟩
def jP (d n x y : Nat) : AOper := ⟨some d, .iaSl n (.tmp x) (.tmp y), none⟩
def zP (d x : Nat) : AOper := ⟨some d, .len (.tmp x), none⟩
def uP (d x : Nat) : AOper := ⟨some d, .nilCheck (.tmp x), none⟩
def sR (l : List AOper) (c : ACode) : ACode := .seq (.run l) c
def z3 : List AV := [.int .i32 0, .int .i32 0, .int .i32 0]
def z9 : List AV := [.int .i32 0, .int .i32 0, .int .i32 0, .flt .f32 (some 0), .flt .f32 (some 0), .flt .f32 (some 0), .flt .f32 (some 0), .int .i64 0, .int .i64 0]
def z2 : List AV := [.flt .f32 (some 0), .nilslice]
def tP (i : Nat) : Opd := .tmp i









def c_laws_FnExactInsertReading : AFun := ⟨104, [.tmp 4], sR [xP 3 1, kP 4 (.bool false)] (sR [kP 5 (.int .i64 1048576)] (sR [mP 16 0, mP 17 5, cP 18 40 [16, 17], mP 5 18] (.seq (sR [mP 19 5, bC 20 .lss 19 (.int .i64 0)] (.cond (tP 20) (sR [kP 4 (.bool true)] (.ret)) (.skip))) (.seq (.mix (.node [mP 22 0, LP 24 4 3] (.cons false (cP 23 42 [22]) (.node [] (.cons true (cP 25 45 [24]) (.node [] (.cons false (cP 26 44 [23, 25]) (.node [mP 21 26, eP 27 0 21, eP 28 1 21, mP 6 27, mP 7 28] .nil) .nil)) .nil)) .nil))) (sR [mP 29 0, cP 30 42 [29], mP 8 30] (sR [mP 32 8, LP 33 4 3, cP 34 45 [33], cP 35 46 [32, 34], mP 31 35, eP 36 0 31, eP 37 1 31, mP 9 36, mP 10 37] (.seq (sR [mP 38 9, mP 39 6, cP 40 35 [38, 39], nP 41 40, mP 42 41, ⟨some 43, .move (tP 10), some (42, false)⟩, ⟨some 44, .move (tP 7), some (42, false)⟩, ⟨some 45, .bin .neq (tP 43) (tP 44), some (42, false)⟩, oP 46 (.pick (tP 42) (.const (.bool true)) (tP 45))] (.cond (tP 46) (sR [kP 4 (.bool false)] (.ret)) (.skip))) (.seq (sR [mP 47 8, mP 48 0, cP 49 42 [48], cP 50 35 [47, 49], nP 51 50] (.cond (tP 51) (sR [kP 4 (.bool false)] (.ret)) (.skip))) (sR [kP 11 (.int .i64 1)] (sR [mP 52 8, mP 53 11, cP 54 38 [52, 53], mP 11 54] (.seq (sR [mP 55 11, bC 56 .lss 55 (.int .i64 0), mP 57 56, ⟨some 58, .move (tP 9), some (57, false)⟩, ⟨some 59, .move (tP 6), some (57, false)⟩, ⟨some 60, .call 35 [.tmp 58, .tmp 59], some (57, false)⟩, ⟨some 61, .un .not (tP 60), some (57, false)⟩, oP 62 (.pick (tP 57) (.const (.bool true)) (tP 61)), mP 63 62, ⟨some 64, .move (tP 10), some (63, false)⟩, ⟨some 65, .move (tP 7), some (63, false)⟩, ⟨some 66, .bin .neq (tP 64) (tP 65), some (63, false)⟩, oP 67 (.pick (tP 63) (.const (.bool true)) (tP 66))] (.cond (tP 67) (sR [kP 4 (.bool false)] (.ret)) (.skip))) (sR [kP 12 (.int .i64 1)] (sR [mP 68 9, mP 69 12, cP 70 38 [68, 69], mP 12 70] (sR [kP 13 (.int .i64 1)] (sR [mP 71 9, mP 72 13, cP 73 39 [71, 72], mP 13 73] (.seq (sR [mP 74 13, bC 75 .lss 74 (.int .i64 0)] (.cond (tP 75) (sR [kP 4 (.bool false)] (.ret)) (.skip))) (.seq (sR [mP 76 13, mP 77 12, bP 78 .neq 76 77] (.cond (tP 78) (sR [kP 4 (.bool false)] (.ret)) (.skip))) (.seq (.mix (.node [mP 80 0, LP 82 4 3] (.cons false (cP 81 42 [80]) (.node [] (.cons true (cP 83 45 [82]) (.node [] (.cons false (cP 84 46 [81, 83]) (.node [mP 79 84, eP 85 0 79, eP 86 1 79, mP 14 85, mP 15 86] .nil) .nil)) .nil)) .nil))) (.seq (sR [mP 87 14, mP 88 6, cP 89 35 [87, 88], nP 90 89, mP 91 90, ⟨some 92, .move (tP 15), some (91, false)⟩, ⟨some 93, .move (tP 7), some (91, false)⟩, ⟨some 94, .bin .neq (tP 92) (tP 93), some (91, false)⟩, oP 95 (.pick (tP 91) (.const (.bool true)) (tP 94))] (.cond (tP 95) (sR [kP 4 (.bool false)] (.ret)) (.skip))) (sR [kP 13 (.int .i64 1)] (sR [mP 96 9, mP 97 13, cP 98 39 [96, 97], mP 13 98] (.seq (sR [mP 99 13, bC 100 .lss 99 (.int .i64 0)] (.cond (tP 100) (sR [kP 4 (.bool false)] (.ret)) (.skip))) (.seq (sR [mP 101 13, mP 102 12, bP 103 .neq 101 102] (.cond (tP 103) (sR [kP 4 (.bool false)] (.ret)) (.skip))) (sR [kP 4 (.bool true)] (.ret)))))))))))))))))))))))))⟩
theorem h_laws_FnExactInsertReading : cFun Try.prog 10 = some c_laws_FnExactInsertReading := by kernel_rfl

























def c_laws_eqReadingS : AFun := ⟨27, [.tmp 4], sR [kP 4 (.bool false)] (.seq (sR [mP 6 0, zP 7 6, mP 8 1, zP 9 8, bP 10 .neq 7 9] (.cond (tP 10) (sR [kP 4 (.bool false)] (.ret)) (.skip))) (.seq (sR [kP 5 (.int .i64 0)] (.block 0 (.loop (.seq (sR [mP 11 5, mP 12 0, zP 13 12, bP 14 .lss 11 13] (.cond (tP 14) (.skip) (.exit 0))) (.seq (.block 1 (.seq (.mix (.node [mP 17 0, mP 18 5, jP 19 4 17 18, LP 20 4 19, mP 21 1, mP 22 5, jP 23 4 21 22, LP 24 4 23] (.cons true (cP 25 83 [20, 24]) (.node [nP 26 25] .nil) .nil))) (.cond (tP 26) (sR [kP 4 (.bool false)] (.ret)) (.skip)))) (.run [mP 15 5, bC 16 .add 15 (.int .i64 1), mP 5 16])))))) (sR [kP 4 (.bool true)] (.ret))))⟩
theorem h_laws_eqReadingS : cFun Try.prog 35 = some c_laws_eqReadingS := by kernel_rfl



def c_laws_markReadingS : AFun := ⟨35, [.tmp 4], sR [kP 4 (.int .i64 0)] (.seq (sR [kP 5 (.int .i64 0)] (.block 0 (.loop (.seq (sR [mP 7 5, mP 8 0, zP 9 8, bP 10 .lss 7 9] (.cond (tP 10) (.skip) (.exit 0))) (.seq (.block 1 (sR [mP 13 0, mP 14 5, mP 15 1, jP 16 4 13 14, fP 17 0 16, sP 1 17 15] (sR [mP 18 1, bC 19 .add 18 (.int .i64 1), mP 1 19] (sR [kP 6 (.int .i64 0)] (.block 2 (.loop (.seq (sR [mP 20 6, bC 21 .lss 20 (.int .i64 3)] (.cond (tP 21) (.skip) (.exit 2))) (.seq (.block 3 (sR [mP 24 0, mP 25 5, mP 26 6, mP 27 1, oP 28 (.conv (.ii .i16) (tP 27)), jP 29 4 24 25, fP 30 1 29, iP 31 3 1 30 26, sP 1 31 28] (.run [mP 32 1, bC 33 .add 32 (.int .i64 1), mP 1 33]))) (.run [mP 22 6, bC 23 .add 22 (.int .i64 1), mP 6 23]))))))))) (.run [mP 11 5, bC 12 .add 11 (.int .i64 1), mP 5 12])))))) (sR [mP 34 1, mP 4 34] (.ret)))⟩
theorem h_laws_markReadingS : cFun Try.prog 38 = some c_laws_markReadingS := by kernel_rfl

def c_laws_heldReadingS : AFun := ⟨39, [.tmp 4], sR [kP 4 (.int .i64 0)] (.seq (sR [kP 5 (.int .i64 0)] (.block 0 (.loop (.seq (sR [mP 7 5, mP 8 0, zP 9 8, bP 10 .lss 7 9] (.cond (tP 10) (.skip) (.exit 0))) (.seq (.block 1 (.seq (sR [mP 13 0, mP 14 5, jP 15 4 13 14, fP 16 0 15, lP 17 16, mP 18 1, bP 19 .neq 17 18] (.cond (tP 19) (sR [kP 4 (.int .i64 (-1))] (.ret)) (.skip))) (sR [mP 20 1, bC 21 .add 20 (.int .i64 1), mP 1 21] (sR [kP 6 (.int .i64 0)] (.block 2 (.loop (.seq (sR [mP 22 6, bC 23 .lss 22 (.int .i64 3)] (.cond (tP 23) (.skip) (.exit 2))) (.seq (.block 3 (.seq (sR [mP 26 0, mP 27 5, mP 28 6, jP 29 4 26 27, fP 30 1 29, iP 31 3 1 30 28, lP 32 31, mP 33 1, oP 34 (.conv (.ii .i16) (tP 33)), bP 35 .neq 32 34] (.cond (tP 35) (sR [kP 4 (.int .i64 (-1))] (.ret)) (.skip))) (.run [mP 36 1, bC 37 .add 36 (.int .i64 1), mP 1 37]))) (.run [mP 24 6, bC 25 .add 24 (.int .i64 1), mP 6 25]))))))))) (.run [mP 11 5, bC 12 .add 11 (.int .i64 1), mP 5 12])))))) (sR [mP 38 1, mP 4 38] (.ret)))⟩
theorem h_laws_heldReadingS : cFun Try.prog 39 = some c_laws_heldReadingS := by kernel_rfl

def c_laws_szReadingS : AFun := ⟨12, [.tmp 4], sR [kP 4 (.int .i64 0)] (sR [mP 5 1, mP 6 0, zP 7 6, bP 8 .sub 5 7, mP 1 8] (.seq (sR [mP 9 1, bC 10 .lss 9 (.int .i64 0)] (.cond (tP 10) (sR [kP 4 (.int .i64 (-1))] (.ret)) (.skip))) (sR [mP 11 1, mP 4 11] (.ret))))⟩
theorem h_laws_szReadingS : cFun Try.prog 40 = some c_laws_szReadingS := by kernel_rfl


def c_laws_toReadingS : AFun := ⟨23, [.tmp 2], sR [kP 2 (.nilslice)] (sR [mP 5 0, zP 6 5, oP 7 (.mkSlice 4 16 [.int .i64 0, .int .i16 0, .int .i16 0, .int .i16 0] (tP 6) (tP 6)), mP 3 7] (.seq (sR [kP 4 (.int .i64 0)] (.block 0 (.loop (.seq (sR [mP 8 4, mP 9 0, zP 10 9, bP 11 .lss 8 10] (.cond (tP 11) (.skip) (.exit 0))) (.seq (.block 1 (.run [mP 14 3, mP 15 4, mP 16 0, mP 17 4, jP 18 4 16 17, LP 19 4 18, cP 20 45 [19], jP 21 4 14 15, sP 4 21 20])) (.run [mP 12 4, bC 13 .add 12 (.int .i64 1), mP 4 13])))))) (sR [mP 22 3, mP 2 22] (.ret))))⟩
theorem h_laws_toReadingS : cFun Try.prog 42 = some c_laws_toReadingS := by kernel_rfl

def c_impl_MergeFeeds : AFun := ⟨27, [.tmp 4, .tmp 5], sR [kP 4 (.nilslice), kP 5 (.int .i64 0)] (.seq (sR [mP 7 0, cP 8 62 [7], nP 9 8, mP 10 9, ⟨some 11, .move (tP 1), some (10, false)⟩, ⟨some 12, .call 62 [.tmp 11], some (10, false)⟩, ⟨some 13, .un .not (tP 12), some (10, false)⟩, oP 14 (.pick (tP 10) (.const (.bool true)) (tP 13))] (.cond (tP 14) (sR [kP 4 (.nilslice), kP 5 (.int .i64 1)] (.ret)) (.skip))) (sR [mP 15 0, cP 16 85 [15], mP 17 1, oP 18 (.append 4 16 (tP 16) (tP 17)), mP 6 18] (sR [mP 19 6, oP 20 (.call 86 [.tmp 19, .const (.func 87 [] [])])] (sR [mP 21 6, oP 22 (.call 89 [.tmp 21, .const (.func 90 [] [])]), mP 6 22] (.seq (sR [mP 23 6, zP 24 23, bC 25 .gtr 24 (.int .i64 256)] (.cond (tP 25) (sR [kP 4 (.nilslice), kP 5 (.int .i64 3)] (.ret)) (.skip))) (sR [mP 26 6, mP 4 26, kP 5 (.int .i64 0)] (.ret)))))))⟩
theorem h_impl_MergeFeeds : cFun Try.prog 43 = some c_impl_MergeFeeds := by kernel_rfl

def c_spec_InsertReading : AFun := ⟨24, [.tmp 4, .tmp 5], sR [xP 3 1, kP 4 (.nilslice), kP 5 (.int .i64 0)] (.seq (sR [mP 7 0, cP 8 78 [7], nP 9 8] (.cond (tP 9) (sR [oP 10 (.bslice 4 0 [] []), mP 4 10, kP 5 (.int .i64 1)] (.ret)) (.skip))) (.seq (sR [fP 11 0 3, lP 12 11, cP 13 91 [12], nP 14 13] (.cond (tP 14) (sR [oP 15 (.bslice 4 0 [] []), mP 4 15, kP 5 (.int .i64 2)] (.ret)) (.skip))) (sR [mP 16 0, LP 17 4 3, cP 18 84 [16, 17], mP 6 18] (.seq (sR [mP 19 6, zP 20 19, bC 21 .gtr 20 (.int .i64 256)] (.cond (tP 21) (sR [oP 22 (.bslice 4 0 [] []), mP 4 22, kP 5 (.int .i64 3)] (.ret)) (.skip))) (sR [mP 23 6, mP 4 23, kP 5 (.int .i64 0)] (.ret))))))⟩
theorem h_spec_InsertReading : cFun Try.prog 44 = some c_spec_InsertReading := by kernel_rfl

def c_laws_toReading : AFun := ⟨12, [.cell 2 true 4], sR [xP 1 0, aP 2 [.int .i64 0, .int .i16 0, .int .i16 0, .int .i16 0]] (sR [aP 3 [.int .i64 0, .int .i16 0, .int .i16 0, .int .i16 0]] (sR [fP 4 0 1, lP 5 4, fP 6 0 3, sP 1 6 5] (sR [fP 7 1 1, LP 8 3 7, cP 9 92 [8], fP 10 1 3, sP 3 10 9] (sR [LP 11 4 3, sP 4 2 11] (.ret)))))⟩
theorem h_laws_toReading : cFun Try.prog 45 = some c_laws_toReading := by kernel_rfl

def c_impl_InsertReading : AFun := ⟨21, [.tmp 4, .tmp 5], sR [xP 3 1, kP 4 (.nilslice), kP 5 (.int .i64 0)] (.seq (.block 0 (sR [mP 7 0, cP 8 62 [7], nP 9 8, mP 6 9] (.cond (tP 6) (sR [kP 4 (.nilslice), kP 5 (.int .i64 1)] (.ret)) (sR [fP 11 0 3, lP 12 11, cP 13 93 [12], nP 14 13, mP 10 14] (.cond (tP 10) (sR [kP 4 (.nilslice), kP 5 (.int .i64 2)] (.ret)) (.skip)))))) (sR [mP 15 0, LP 16 4 3, oP 17 (.bslice 4 1 [.int .i64 0, .int .i16 0, .int .i16 0, .int .i16 0] [(0, 4, .tmp 16)]), cP 18 43 [15, 17], eP 19 0 18, eP 20 1 18, mP 4 19, mP 5 20] (.ret)))⟩
theorem h_impl_InsertReading : cFun Try.prog 46 = some c_impl_InsertReading := by kernel_rfl














def c_impl_ValidFeed : AFun := ⟨35, [.tmp 2], sR [kP 2 (.bool false)] (.seq (sR [mP 5 0, zP 6 5, kP 7 (.int .i64 0)] (.block 0 (.loop (sR [bP 8 .lss 7 6] (.seq (.cond (tP 8) (.skip) (.exit 0)) (.seq (.block 1 (sR [mP 9 7, jP 10 4 5 7, LP 11 4 10, aP 4 [.int .i64 0, .int .i16 0, .int .i16 0, .int .i16 0], mP 3 9, sP 4 4 11] (.seq (.mix (.node [fP 12 0 4, lP 13 12] (.cons true (cP 14 93 [13]) (.node [nP 15 14, mP 16 15, ⟨some 17, .move (tP 3), some (16, false)⟩, ⟨some 18, .bin .gtr (tP 17) (.const (.int .i64 0)), some (16, false)⟩, ⟨some 19, .move (tP 18), some (16, false)⟩, ⟨some 20, .faddr 0 (tP 4), some (19, true)⟩, ⟨some 21, .load false 1 (tP 20), some (19, true)⟩, ⟨some 22, .move (tP 0), some (19, true)⟩, ⟨some 23, .move (tP 3), some (19, true)⟩, ⟨some 24, .bin .sub (tP 23) (.const (.int .i64 1)), some (19, true)⟩, ⟨some 25, .iaSl 4 (tP 22) (tP 24), some (19, true)⟩, ⟨some 26, .faddr 0 (tP 25), some (19, true)⟩, ⟨some 27, .load false 1 (tP 26), some (19, true)⟩, ⟨some 28, .bin .leq (tP 21) (tP 27), some (19, true)⟩, ⟨some 29, .pick (tP 19) (tP 28) (.const (.bool false)), some (16, false)⟩, oP 30 (.pick (tP 16) (.const (.bool true)) (tP 29))] .nil) .nil))) (.cond (tP 30) (sR [kP 2 (.bool false)] (.ret)) (.skip))))) (.run [bC 31 .add 7 (.int .i64 1), mP 7 31]))))))) (sR [mP 32 0, zP 33 32, bC 34 .leq 33 (.int .i64 256), mP 2 34] (.ret)))⟩
theorem h_impl_ValidFeed : cFun Try.prog 62 = some c_impl_ValidFeed := by kernel_rfl







def c_impl_within : AFun := ⟨15, [.tmp 6], sR [kP 6 (.bool false)] (sR [mP 7 0, mP 8 1, bP 9 .geq 7 8, mP 10 9, ⟨some 11, .move (tP 0), some (10, true)⟩, ⟨some 12, .move (tP 2), some (10, true)⟩, ⟨some 13, .bin .leq (tP 11) (tP 12), some (10, true)⟩, oP 14 (.pick (tP 10) (tP 13) (.const (.bool false))), mP 6 14] (.ret))⟩
theorem h_impl_within : cFun Try.prog 69 = some c_impl_within := by kernel_rfl

def c_spec_l00In : AFun := ⟨15, [.tmp 6], sR [kP 6 (.bool false)] (sR [mP 7 0, mP 8 1, bP 9 .geq 7 8, mP 10 9, ⟨some 11, .move (tP 0), some (10, true)⟩, ⟨some 12, .move (tP 2), some (10, true)⟩, ⟨some 13, .bin .leq (tP 11) (tP 12), some (10, true)⟩, oP 14 (.pick (tP 10) (tP 13) (.const (.bool false))), mP 6 14] (.ret))⟩
theorem h_spec_l00In : cFun Try.prog 70 = some c_spec_l00In := by kernel_rfl








def c_spec_l04Feed : AFun := ⟨38, [.tmp 2], sR [kP 2 (.bool false)] (.seq (sR [kP 3 (.int .i64 0)] (.block 0 (.loop (.seq (sR [mP 4 3, mP 5 0, zP 6 5, bP 7 .lss 4 6] (.cond (tP 7) (.skip) (.exit 0))) (.seq (.block 1 (.seq (.mix (.node [mP 10 0, mP 11 3, jP 12 4 10 11, fP 13 0 12, lP 14 13] (.cons true (cP 15 91 [14]) (.node [nP 16 15, mP 17 16, ⟨some 18, .move (tP 3), some (17, false)⟩, ⟨some 19, .bin .gtr (tP 18) (.const (.int .i64 0)), some (17, false)⟩, ⟨some 20, .move (tP 19), some (17, false)⟩, ⟨some 21, .move (tP 0), some (20, true)⟩, ⟨some 22, .move (tP 3), some (20, true)⟩, ⟨some 23, .bin .sub (tP 22) (.const (.int .i64 1)), some (20, true)⟩, ⟨some 24, .iaSl 4 (tP 21) (tP 23), some (20, true)⟩, ⟨some 25, .faddr 0 (tP 24), some (20, true)⟩, ⟨some 26, .load false 1 (tP 25), some (20, true)⟩, ⟨some 27, .move (tP 0), some (20, true)⟩, ⟨some 28, .move (tP 3), some (20, true)⟩, ⟨some 29, .iaSl 4 (tP 27) (tP 28), some (20, true)⟩, ⟨some 30, .faddr 0 (tP 29), some (20, true)⟩, ⟨some 31, .load false 1 (tP 30), some (20, true)⟩, ⟨some 32, .bin .geq (tP 26) (tP 31), some (20, true)⟩, ⟨some 33, .pick (tP 20) (tP 32) (.const (.bool false)), some (17, false)⟩, oP 34 (.pick (tP 17) (.const (.bool true)) (tP 33))] .nil) .nil))) (.cond (tP 34) (sR [kP 2 (.bool false)] (.ret)) (.skip)))) (.run [mP 8 3, bC 9 .add 8 (.int .i64 1), mP 3 9])))))) (sR [mP 35 0, zP 36 35, bC 37 .leq 36 (.int .i64 256), mP 2 37] (.ret)))⟩
theorem h_spec_l04Feed : cFun Try.prog 78 = some c_spec_l04Feed := by kernel_rfl





def c_laws_eqReading : AFun := ⟨16, [.tmp 4], sR [xP 2 0, xP 3 1, kP 4 (.bool false)] (.seq (sR [fP 5 0 2, lP 6 5, fP 7 0 3, lP 8 7, bP 9 .neq 6 8] (.cond (tP 9) (sR [kP 4 (.bool false)] (.ret)) (.skip))) (.seq (sR [fP 10 1 2, LP 11 3 10, fP 12 1 3, LP 13 3 12, cP 14 115 [11, 13], nP 15 14] (.cond (tP 15) (sR [kP 4 (.bool false)] (.ret)) (.skip))) (sR [kP 4 (.bool true)] (.ret))))⟩
theorem h_laws_eqReading : cFun Try.prog 83 = some c_laws_eqReading := by kernel_rfl

def c_spec_l04Put : AFun := ⟨54, [.tmp 4], sR [xP 3 1, kP 4 (.nilslice)] (sR [mP 7 0, zP 8 7, mP 5 8] (.seq (.block 0 (.loop (.seq (.seq (.mix (.node [mP 9 5, bC 10 .gtr 9 (.int .i64 0), mP 11 10, ⟨some 12, .move (tP 0), some (11, true)⟩, ⟨some 13, .move (tP 5), some (11, true)⟩, ⟨some 14, .bin .sub (tP 13) (.const (.int .i64 1)), some (11, true)⟩, ⟨some 15, .iaSl 4 (tP 12) (tP 14), some (11, true)⟩, ⟨some 16, .faddr 0 (tP 15), some (11, true)⟩, ⟨some 17, .load false 1 (tP 16), some (11, true)⟩, ⟨some 18, .faddr 0 (tP 3), some (11, true)⟩, ⟨some 19, .load false 1 (tP 18), some (11, true)⟩, ⟨some 20, .bin .geq (tP 17) (tP 19), some (11, true)⟩, oP 21 (.pick (tP 11) (tP 20) (.const (.bool false)))] .nil)) (.cond (tP 21) (.skip) (.exit 0))) (.block 1 (.run [mP 22 5, bC 23 .sub 22 (.int .i64 1), mP 5 23]))))) (.seq (.seq (.mix (.node [mP 24 5, mP 25 0, zP 26 25, bP 27 .lss 24 26, mP 28 27, ⟨some 29, .move (tP 0), some (28, true)⟩, ⟨some 30, .move (tP 5), some (28, true)⟩, ⟨some 31, .iaSl 4 (tP 29) (tP 30), some (28, true)⟩, ⟨some 32, .faddr 0 (tP 31), some (28, true)⟩, ⟨some 33, .load false 1 (tP 32), some (28, true)⟩, ⟨some 34, .faddr 0 (tP 3), some (28, true)⟩, ⟨some 35, .load false 1 (tP 34), some (28, true)⟩, ⟨some 36, .bin .eql (tP 33) (tP 35), some (28, true)⟩, oP 37 (.pick (tP 28) (tP 36) (.const (.bool false)))] .nil)) (.cond (tP 37) (sR [oP 38 (.bslice 4 0 [] []), mP 39 0, oP 40 (.append 4 16 (tP 38) (tP 39)), mP 4 40] (.ret)) (.skip))) (.seq (.mix (.node [LP 41 4 3, mP 43 0, mP 44 5, oP 45 (.slSl 4 (tP 43) (some (tP 44)) none none)] (.cons true (oP 42 (.bslice 4 1 [.int .i64 0, .int .i16 0, .int .i16 0, .int .i16 0] [(0, 4, .tmp 41)])) (.node [] (.cons true (oP 46 (.append 4 16 (tP 42) (tP 45))) (.node [mP 6 46] .nil) .nil)) .nil))) (sR [oP 47 (.bslice 4 0 [] []), mP 48 0, mP 49 5, oP 50 (.slSl 4 (tP 48) none (some (tP 49)) none), oP 51 (.append 4 16 (tP 47) (tP 50)), mP 52 6, oP 53 (.append 4 16 (tP 51) (tP 52)), mP 4 53] (.ret))))))⟩
theorem h_spec_l04Put : cFun Try.prog 84 = some c_spec_l04Put := by kernel_rfl

def c_slices_Clone_impl_Reading_impl_Reading : AFun := ⟨8, [.tmp 2], sR [kP 2 (.nilslice)] (.seq (sR [mP 3 0, oP 4 (.eqNilS false (tP 3) (.const (.nilslice)))] (.cond (tP 4) (sR [kP 2 (.nilslice)] (.ret)) (.skip))) (sR [oP 5 (.bslice 4 0 [] []), mP 6 0, oP 7 (.append 4 16 (tP 5) (tP 6)), mP 2 7] (.ret)))⟩
theorem h_slices_Clone_impl_Reading_impl_Reading : cFun Try.prog 85 = some c_slices_Clone_impl_Reading_impl_Reading := by kernel_rfl

def c_slices_SortStableFunc_impl_Reading_impl_Reading : AFun := ⟨9, [], .run [mP 4 0, mP 5 0, zP 6 5, mP 7 1, cP 8 116 [4, 6, 7]]⟩
theorem h_slices_SortStableFunc_impl_Reading_impl_Reading : cFun Try.prog 86 = some c_slices_SortStableFunc_impl_Reading_impl_Reading := by kernel_rfl

def c_impl_MergeFeeds_1 : AFun := ⟨10, [.tmp 4], sR [xP 2 0, xP 3 1, kP 4 (.int .i64 0)] (sR [fP 5 0 2, lP 6 5, fP 7 0 3, lP 8 7, cP 9 88 [6, 8], mP 4 9] (.ret))⟩
theorem h_impl_MergeFeeds_1 : cFun Try.prog 87 = some c_impl_MergeFeeds_1 := by kernel_rfl

def c_cmp_Compare_int64 : AFun := ⟨20, [.tmp 4], sR [kP 4 (.int .i64 0)] (sR [mP 7 0, cP 8 117 [7], mP 5 8] (sR [mP 9 1, cP 10 117 [9], mP 6 10] (.seq (sR [mP 11 5] (.cond (tP 11) (.seq (sR [mP 12 6] (.cond (tP 12) (sR [kP 4 (.int .i64 0)] (.ret)) (.skip))) (sR [kP 4 (.int .i64 (-1))] (.ret))) (.skip))) (.seq (sR [mP 13 6] (.cond (tP 13) (sR [kP 4 (.int .i64 1)] (.ret)) (.skip))) (.seq (sR [mP 14 0, mP 15 1, bP 16 .lss 14 15] (.cond (tP 16) (sR [kP 4 (.int .i64 (-1))] (.ret)) (.skip))) (.seq (sR [mP 17 0, mP 18 1, bP 19 .gtr 17 18] (.cond (tP 19) (sR [kP 4 (.int .i64 1)] (.ret)) (.skip))) (sR [kP 4 (.int .i64 0)] (.ret))))))))⟩
theorem h_cmp_Compare_int64 : cFun Try.prog 88 = some c_cmp_Compare_int64 := by kernel_rfl

def c_slices_CompactFunc_impl_Reading_impl_Reading : AFun := ⟨66, [.tmp 4], sR [kP 4 (.nilslice)] (.seq (sR [mP 8 0, zP 9 8, bC 10 .lss 9 (.int .i64 2)] (.cond (tP 10) (sR [mP 11 0, mP 4 11] (.ret)) (.skip))) (.seq (sR [kP 5 (.int .i64 1)] (.block 0 (.loop (.seq (sR [mP 12 5, mP 13 0, zP 14 13, bP 15 .lss 12 14] (.cond (tP 15) (.skip) (.exit 0))) (.seq (.block 1 (.seq (.mix (.node [mP 18 1, mP 19 0, mP 20 5, jP 21 4 19 20, LP 22 4 21, mP 23 0, mP 24 5, bC 25 .sub 24 (.int .i64 1), jP 26 4 23 25, LP 27 4 26] (.cons true (oP 28 (.callV (tP 18) [.tmp 22, .tmp 27])) (.node [] .nil) .nil))) (.cond (tP 28) (sR [mP 29 0, mP 30 5, oP 31 (.slSl 4 (tP 29) (some (tP 30)) none none), mP 6 31] (.seq (sR [kP 7 (.int .i64 1)] (.block 2 (.loop (.seq (sR [mP 32 7, mP 33 6, zP 34 33, bP 35 .lss 32 34] (.cond (tP 35) (.skip) (.exit 2))) (.seq (.block 3 (.seq (.mix (.node [mP 38 1, mP 39 6, mP 40 7, jP 41 4 39 40, LP 42 4 41, mP 43 6, mP 44 7, bC 45 .sub 44 (.int .i64 1), jP 46 4 43 45, LP 47 4 46] (.cons true (oP 48 (.callV (tP 38) [.tmp 42, .tmp 47])) (.node [nP 49 48] .nil) .nil))) (.cond (tP 49) (sR [mP 50 0, mP 51 5, mP 52 6, mP 53 7, jP 54 4 52 53, LP 55 4 54, jP 56 4 50 51, sP 4 56 55] (.run [mP 57 5, bC 58 .add 57 (.int .i64 1), mP 5 58])) (.skip)))) (.run [mP 36 7, bC 37 .add 36 (.int .i64 1), mP 7 37])))))) (sR [mP 59 0, mP 60 5, oP 61 (.slSl 4 (tP 59) (some (tP 60)) none none), ⟨none, .clear 4 [.int .i64 0, .int .i16 0, .int .i16 0, .int .i16 0] (tP 61), none⟩] (sR [mP 62 0, mP 63 5, oP 64 (.slSl 4 (tP 62) none (some (tP 63)) none), mP 4 64] (.ret))))) (.skip)))) (.run [mP 16 5, bC 17 .add 16 (.int .i64 1), mP 5 17])))))) (sR [mP 65 0, mP 4 65] (.ret))))⟩
theorem h_slices_CompactFunc_impl_Reading_impl_Reading : cFun Try.prog 89 = some c_slices_CompactFunc_impl_Reading_impl_Reading := by kernel_rfl

def c_impl_MergeFeeds_2 : AFun := ⟨10, [.tmp 4], sR [xP 2 0, xP 3 1, kP 4 (.bool false)] (sR [fP 5 0 2, lP 6 5, fP 7 0 3, lP 8 7, bP 9 .eql 6 8, mP 4 9] (.ret))⟩
theorem h_impl_MergeFeeds_2 : cFun Try.prog 90 = some c_impl_MergeFeeds_2 := by kernel_rfl

def c_spec_l04Time : AFun := ⟨5, [.tmp 2], sR [kP 2 (.bool false)] (sR [mP 3 0, oP 4 (.call 70 [.tmp 3, .const (.int .i64 0), .const (.int .i64 1000000000)]), mP 2 4] (.ret))⟩
theorem h_spec_l04Time : cFun Try.prog 91 = some c_spec_l04Time := by kernel_rfl

def c_laws_toCounts : AFun := ⟨15, [.cell 2 true 3], sR [xP 1 0, aP 2 [.int .i16 0, .int .i16 0, .int .i16 0]] (sR [aP 3 [.int .i16 0, .int .i16 0, .int .i16 0]] (.seq (sR [kP 4 (.int .i64 0)] (.block 0 (.loop (.seq (sR [mP 5 4, bC 6 .lss 5 (.int .i64 3)] (.cond (tP 6) (.skip) (.exit 0))) (.seq (.block 1 (.run [mP 9 4, mP 10 4, iP 11 3 1 1 10, lP 12 11, iP 13 3 1 3 9, sP 1 13 12])) (.run [mP 7 4, bC 8 .add 7 (.int .i64 1), mP 4 8])))))) (sR [LP 14 3 3, sP 3 2 14] (.ret))))⟩
theorem h_laws_toCounts : cFun Try.prog 92 = some c_laws_toCounts := by kernel_rfl

def c_impl_isTime : AFun := ⟨5, [.tmp 2], sR [kP 2 (.bool false)] (sR [mP 3 0, oP 4 (.call 69 [.tmp 3, .const (.int .i64 0), .const (.int .i64 1000000000)]), mP 2 4] (.ret))⟩
theorem h_impl_isTime : cFun Try.prog 93 = some c_impl_isTime := by kernel_rfl






















def c_laws_eqCounts : AFun := ⟨17, [.tmp 4], sR [xP 2 0, xP 3 1, kP 4 (.bool false)] (.seq (sR [kP 5 (.int .i64 0)] (.block 0 (.loop (.seq (sR [mP 6 5, bC 7 .lss 6 (.int .i64 3)] (.cond (tP 7) (.skip) (.exit 0))) (.seq (.block 1 (.seq (.mix (.node [mP 10 5, iP 11 3 1 2 10, lP 12 11, mP 13 5, iP 14 3 1 3 13, lP 15 14, bP 16 .neq 12 15] .nil)) (.cond (tP 16) (sR [kP 4 (.bool false)] (.ret)) (.skip)))) (.run [mP 8 5, bC 9 .add 8 (.int .i64 1), mP 5 9])))))) (sR [kP 4 (.bool true)] (.ret)))⟩
theorem h_laws_eqCounts : cFun Try.prog 115 = some c_laws_eqCounts := by kernel_rfl

def c_slices_stableCmpFunc_impl_Reading : AFun := ⟨63, [], sR [kP 6 (.int .i64 20)] (sR [mP 10 6, kP 7 (.int .i64 0), mP 8 10] (.seq (.block 0 (.loop (.seq (sR [mP 11 8, mP 12 1, bP 13 .leq 11 12] (.cond (tP 13) (.skip) (.exit 0))) (.block 1 (sR [mP 14 0, mP 15 7, mP 16 8, mP 17 2, cP 18 129 [14, 15, 16, 17]] (sR [mP 19 8, mP 7 19] (.run [mP 20 8, mP 21 6, bP 22 .add 20 21, mP 8 22]))))))) (sR [mP 23 0, mP 24 7, mP 25 1, mP 26 2, cP 27 129 [23, 24, 25, 26]] (.block 2 (.loop (.seq (sR [mP 28 6, mP 29 1, bP 30 .lss 28 29] (.cond (tP 30) (.skip) (.exit 2))) (.block 3 (sR [mP 31 6, oP 32 (.bin .mul (.const (.int .i64 2)) (tP 31)), kP 7 (.int .i64 0), mP 8 32] (.seq (.block 4 (.loop (.seq (sR [mP 33 8, mP 34 1, bP 35 .leq 33 34] (.cond (tP 35) (.skip) (.exit 4))) (.block 5 (sR [mP 36 0, mP 37 7, mP 38 7, mP 39 6, bP 40 .add 38 39, mP 41 8, mP 42 2, cP 43 130 [36, 37, 40, 41, 42]] (sR [mP 44 8, mP 7 44] (.run [mP 45 8, mP 46 6, oP 47 (.bin .mul (.const (.int .i64 2)) (tP 46)), bP 48 .add 45 47, mP 8 48]))))))) (.seq (sR [mP 49 7, mP 50 6, bP 51 .add 49 50, mP 9 51] (sR [mP 52 9, mP 53 1, bP 54 .lss 52 53] (.cond (tP 54) (.run [mP 55 0, mP 56 7, mP 57 9, mP 58 1, mP 59 2, cP 60 130 [55, 56, 57, 58, 59]]) (.skip)))) (.run [mP 61 6, bC 62 .mul 61 (.int .i64 2), mP 6 62])))))))))))⟩
theorem h_slices_stableCmpFunc_impl_Reading : cFun Try.prog 116 = some c_slices_stableCmpFunc_impl_Reading := by kernel_rfl

def c_cmp_isNaN_int64 : AFun := ⟨6, [.tmp 2], sR [kP 2 (.bool false)] (sR [mP 3 0, mP 4 0, bP 5 .neq 3 4, mP 2 5] (.ret))⟩
theorem h_cmp_isNaN_int64 : cFun Try.prog 117 = some c_cmp_isNaN_int64 := by kernel_rfl










def c_slices_insertionSortCmpFunc_impl_Reading : AFun := ⟨53, [], sR [mP 10 1, bC 11 .add 10 (.int .i64 1), mP 8 11] (.block 0 (.loop (.seq (sR [mP 12 8, mP 13 2, bP 14 .lss 12 13] (.cond (tP 14) (.skip) (.exit 0))) (.seq (.block 1 (sR [mP 17 8, mP 9 17] (.block 2 (.loop (.seq (.seq (.mix (.node [mP 18 9, mP 19 1, bP 20 .gtr 18 19, mP 21 20, ⟨some 22, .move (tP 3), some (21, true)⟩, ⟨some 23, .move (tP 0), some (21, true)⟩, ⟨some 24, .move (tP 9), some (21, true)⟩, ⟨some 25, .iaSl 4 (tP 23) (tP 24), some (21, true)⟩, ⟨some 26, .load true 4 (tP 25), some (21, true)⟩, ⟨some 27, .move (tP 0), some (21, true)⟩, ⟨some 28, .move (tP 9), some (21, true)⟩, ⟨some 29, .bin .sub (tP 28) (.const (.int .i64 1)), some (21, true)⟩, ⟨some 30, .iaSl 4 (tP 27) (tP 29), some (21, true)⟩, ⟨some 31, .load true 4 (tP 30), some (21, true)⟩] (.cons true ⟨some 32, .callV (tP 22) [.tmp 26, .tmp 31], some (21, true)⟩ (.node [⟨some 33, .bin .lss (tP 32) (.const (.int .i64 0)), some (21, true)⟩, oP 34 (.pick (tP 21) (tP 33) (.const (.bool false)))] .nil) .nil))) (.cond (tP 34) (.skip) (.exit 2))) (.seq (.block 3 (.mix (.node [mP 37 0, mP 38 9, mP 39 0, mP 40 9, bC 41 .sub 40 (.int .i64 1), mP 42 0, mP 43 9, bC 44 .sub 43 (.int .i64 1), jP 45 4 42 44, LP 46 4 45, mP 47 0, mP 48 9, jP 49 4 47 48, LP 50 4 49, jP 51 4 37 38] (.cons true (sP 4 51 46) (.node [jP 52 4 39 41] (.cons true (sP 4 52 50) (.node [] .nil) .nil)) .nil)))) (.run [mP 35 9, bC 36 .sub 35 (.int .i64 1), mP 9 36]))))))) (.run [mP 15 8, bC 16 .add 15 (.int .i64 1), mP 8 16])))))⟩
theorem h_slices_insertionSortCmpFunc_impl_Reading : cFun Try.prog 129 = some c_slices_insertionSortCmpFunc_impl_Reading := by kernel_rfl

def c_slices_symMergeCmpFunc_impl_Reading : AFun := ⟨220, [], .seq (sR [mP 25 2, mP 26 1, bP 27 .sub 25 26, bC 28 .eql 27 (.int .i64 1)] (.cond (tP 28) (sR [mP 29 2, mP 10 29] (sR [mP 30 3, mP 11 30] (.seq (.block 0 (.loop (.seq (sR [mP 31 10, mP 32 11, bP 33 .lss 31 32] (.cond (tP 33) (.skip) (.exit 0))) (.block 1 (sR [mP 34 10, mP 35 11, bP 36 .add 34 35, oP 37 (.conv (.ii .u64) (tP 36)), bC 38 .shr 37 (.int .u64 1), oP 39 (.conv (.ii .i64) (tP 38)), mP 12 39] (.seq (.mix (.node [mP 40 4, mP 41 0, mP 42 12, jP 43 4 41 42, LP 44 4 43, mP 45 0, mP 46 1, jP 47 4 45 46, LP 48 4 47] (.cons true (oP 49 (.callV (tP 40) [.tmp 44, .tmp 48])) (.node [bC 50 .lss 49 (.int .i64 0)] .nil) .nil))) (.cond (tP 50) (.run [mP 51 12, bC 52 .add 51 (.int .i64 1), mP 10 52]) (.run [mP 53 12, mP 11 53])))))))) (.seq (sR [mP 54 1, mP 13 54] (.block 2 (.loop (.seq (sR [mP 55 13, mP 56 10, bC 57 .sub 56 (.int .i64 1), bP 58 .lss 55 57] (.cond (tP 58) (.skip) (.exit 2))) (.seq (.block 3 (.mix (.node [mP 61 0, mP 62 13, mP 63 0, mP 64 13, bC 65 .add 64 (.int .i64 1), mP 66 0, mP 67 13, bC 68 .add 67 (.int .i64 1), jP 69 4 66 68, LP 70 4 69, mP 71 0, mP 72 13, jP 73 4 71 72, LP 74 4 73, jP 75 4 61 62] (.cons true (sP 4 75 70) (.node [jP 76 4 63 65] (.cons true (sP 4 76 74) (.node [] .nil) .nil)) .nil)))) (.run [mP 59 13, bC 60 .add 59 (.int .i64 1), mP 13 60])))))) (.ret))))) (.skip))) (.seq (sR [mP 77 3, mP 78 2, bP 79 .sub 77 78, bC 80 .eql 79 (.int .i64 1)] (.cond (tP 80) (sR [mP 81 1, mP 14 81] (sR [mP 82 2, mP 15 82] (.seq (.block 4 (.loop (.seq (sR [mP 83 14, mP 84 15, bP 85 .lss 83 84] (.cond (tP 85) (.skip) (.exit 4))) (.block 5 (sR [mP 86 14, mP 87 15, bP 88 .add 86 87, oP 89 (.conv (.ii .u64) (tP 88)), bC 90 .shr 89 (.int .u64 1), oP 91 (.conv (.ii .i64) (tP 90)), mP 16 91] (.seq (.mix (.node [mP 92 4, mP 93 0, mP 94 2, jP 95 4 93 94, LP 96 4 95, mP 97 0, mP 98 16, jP 99 4 97 98, LP 100 4 99] (.cons true (oP 101 (.callV (tP 92) [.tmp 96, .tmp 100])) (.node [bC 102 .lss 101 (.int .i64 0), nP 103 102] .nil) .nil))) (.cond (tP 103) (.run [mP 104 16, bC 105 .add 104 (.int .i64 1), mP 14 105]) (.run [mP 106 16, mP 15 106])))))))) (.seq (sR [mP 107 2, mP 17 107] (.block 6 (.loop (.seq (sR [mP 108 17, mP 109 14, bP 110 .gtr 108 109] (.cond (tP 110) (.skip) (.exit 6))) (.seq (.block 7 (.mix (.node [mP 113 0, mP 114 17, mP 115 0, mP 116 17, bC 117 .sub 116 (.int .i64 1), mP 118 0, mP 119 17, bC 120 .sub 119 (.int .i64 1), jP 121 4 118 120, LP 122 4 121, mP 123 0, mP 124 17, jP 125 4 123 124, LP 126 4 125, jP 127 4 113 114] (.cons true (sP 4 127 122) (.node [jP 128 4 115 117] (.cons true (sP 4 128 126) (.node [] .nil) .nil)) .nil)))) (.run [mP 111 17, bC 112 .sub 111 (.int .i64 1), mP 17 112])))))) (.ret))))) (.skip))) (sR [mP 129 1, mP 130 3, bP 131 .add 129 130, oP 132 (.conv (.ii .u64) (tP 131)), bC 133 .shr 132 (.int .u64 1), oP 134 (.conv (.ii .i64) (tP 133)), mP 18 134] (sR [mP 135 18, mP 136 2, bP 137 .add 135 136, mP 19 137] (sR [kP 20 (.int .i64 0), kP 21 (.int .i64 0)] (.seq (sR [mP 138 2, mP 139 18, bP 140 .gtr 138 139] (.cond (tP 140) (sR [mP 141 19, mP 142 3, bP 143 .sub 141 142, mP 20 143] (.run [mP 144 18, mP 21 144])) (sR [mP 145 1, mP 20 145] (.run [mP 146 2, mP 21 146])))) (sR [mP 147 19, bC 148 .sub 147 (.int .i64 1), mP 22 148] (.seq (.block 8 (.loop (.seq (sR [mP 149 20, mP 150 21, bP 151 .lss 149 150] (.cond (tP 151) (.skip) (.exit 8))) (.block 9 (sR [mP 152 20, mP 153 21, bP 154 .add 152 153, oP 155 (.conv (.ii .u64) (tP 154)), bC 156 .shr 155 (.int .u64 1), oP 157 (.conv (.ii .i64) (tP 156)), mP 23 157] (.seq (.mix (.node [mP 158 4, mP 159 0, mP 160 22, mP 161 23, bP 162 .sub 160 161, jP 163 4 159 162, LP 164 4 163, mP 165 0, mP 166 23, jP 167 4 165 166, LP 168 4 167] (.cons true (oP 169 (.callV (tP 158) [.tmp 164, .tmp 168])) (.node [bC 170 .lss 169 (.int .i64 0), nP 171 170] .nil) .nil))) (.cond (tP 171) (.run [mP 172 23, bC 173 .add 172 (.int .i64 1), mP 20 173]) (.run [mP 174 23, mP 21 174])))))))) (sR [mP 175 19, mP 176 20, bP 177 .sub 175 176, mP 24 177] (.seq (sR [mP 178 20, mP 179 2, bP 180 .lss 178 179, mP 181 180, ⟨some 182, .move (tP 2), some (181, true)⟩, ⟨some 183, .move (tP 24), some (181, true)⟩, ⟨some 184, .bin .lss (tP 182) (tP 183), some (181, true)⟩, oP 185 (.pick (tP 181) (tP 184) (.const (.bool false)))] (.cond (tP 185) (.run [mP 186 0, mP 187 20, mP 188 2, mP 189 24, mP 190 4, cP 191 137 [186, 187, 188, 189, 190]]) (.skip))) (.seq (sR [mP 192 1, mP 193 20, bP 194 .lss 192 193, mP 195 194, ⟨some 196, .move (tP 20), some (195, true)⟩, ⟨some 197, .move (tP 18), some (195, true)⟩, ⟨some 198, .bin .lss (tP 196) (tP 197), some (195, true)⟩, oP 199 (.pick (tP 195) (tP 198) (.const (.bool false)))] (.cond (tP 199) (.run [mP 200 0, mP 201 1, mP 202 20, mP 203 18, mP 204 4, cP 205 130 [200, 201, 202, 203, 204]]) (.skip))) (sR [mP 206 18, mP 207 24, bP 208 .lss 206 207, mP 209 208, ⟨some 210, .move (tP 24), some (209, true)⟩, ⟨some 211, .move (tP 3), some (209, true)⟩, ⟨some 212, .bin .lss (tP 210) (tP 211), some (209, true)⟩, oP 213 (.pick (tP 209) (tP 212) (.const (.bool false)))] (.cond (tP 213) (.run [mP 214 0, mP 215 18, mP 216 24, mP 217 3, mP 218 4, cP 219 130 [214, 215, 216, 217, 218]]) (.skip)))))))))))))⟩
theorem h_slices_symMergeCmpFunc_impl_Reading : cFun Try.prog 130 = some c_slices_symMergeCmpFunc_impl_Reading := by kernel_rfl






def c_slices_rotateCmpFunc_impl_Reading : AFun := ⟨58, [], sR [mP 12 2, mP 13 1, bP 14 .sub 12 13, mP 10 14] (sR [mP 15 3, mP 16 2, bP 17 .sub 15 16, mP 11 17] (.seq (.block 0 (.loop (.seq (sR [mP 18 10, mP 19 11, bP 20 .neq 18 19] (.cond (tP 20) (.skip) (.exit 0))) (.block 1 (sR [mP 21 10, mP 22 11, bP 23 .gtr 21 22] (.cond (tP 23) (sR [mP 24 0, mP 25 2, mP 26 10, bP 27 .sub 25 26, mP 28 2, mP 29 11, mP 30 4, cP 31 138 [24, 27, 28, 29, 30]] (.run [mP 32 10, mP 33 11, bP 34 .sub 32 33, mP 10 34])) (sR [mP 35 0, mP 36 2, mP 37 10, bP 38 .sub 36 37, mP 39 2, mP 40 11, bP 41 .add 39 40, mP 42 10, bP 43 .sub 41 42, mP 44 10, mP 45 4, cP 46 138 [35, 38, 43, 44, 45]] (.run [mP 47 11, mP 48 10, bP 49 .sub 47 48, mP 11 49])))))))) (.run [mP 50 0, mP 51 2, mP 52 10, bP 53 .sub 51 52, mP 54 2, mP 55 10, mP 56 4, cP 57 138 [50, 53, 54, 55, 56]])))⟩
theorem h_slices_rotateCmpFunc_impl_Reading : cFun Try.prog 137 = some c_slices_rotateCmpFunc_impl_Reading := by kernel_rfl

def c_slices_swapRangeCmpFunc_impl_Reading : AFun := ⟨38, [], sR [kP 10 (.int .i64 0)] (.block 0 (.loop (.seq (sR [mP 11 10, mP 12 3, bP 13 .lss 11 12] (.cond (tP 13) (.skip) (.exit 0))) (.seq (.block 1 (.mix (.node [mP 16 0, mP 17 1, mP 18 10, bP 19 .add 17 18, mP 20 0, mP 21 2, mP 22 10, bP 23 .add 21 22, mP 24 0, mP 25 2, mP 26 10, bP 27 .add 25 26, jP 28 4 24 27, LP 29 4 28, mP 30 0, mP 31 1, mP 32 10, bP 33 .add 31 32, jP 34 4 30 33, LP 35 4 34, jP 36 4 16 19] (.cons true (sP 4 36 29) (.node [jP 37 4 20 23] (.cons true (sP 4 37 35) (.node [] .nil) .nil)) .nil)))) (.run [mP 14 10, bC 15 .add 14 (.int .i64 1), mP 10 15])))))⟩
theorem h_slices_swapRangeCmpFunc_impl_Reading : cFun Try.prog 138 = some c_slices_swapRangeCmpFunc_impl_Reading := by kernel_rfl

def tb : List (Nat × AFun) := [(10, c_laws_FnExactInsertReading), (35, c_laws_eqReadingS), (38, c_laws_markReadingS), (39, c_laws_heldReadingS), (40, c_laws_szReadingS), (42, c_laws_toReadingS), (43, c_impl_MergeFeeds), (44, c_spec_InsertReading), (45, c_laws_toReading), (46, c_impl_InsertReading), (62, c_impl_ValidFeed), (69, c_impl_within), (70, c_spec_l00In), (78, c_spec_l04Feed), (83, c_laws_eqReading), (84, c_spec_l04Put), (85, c_slices_Clone_impl_Reading_impl_Reading), (86, c_slices_SortStableFunc_impl_Reading_impl_Reading), (87, c_impl_MergeFeeds_1), (88, c_cmp_Compare_int64), (89, c_slices_CompactFunc_impl_Reading_impl_Reading), (90, c_impl_MergeFeeds_2), (91, c_spec_l04Time), (92, c_laws_toCounts), (93, c_impl_isTime), (115, c_laws_eqCounts), (116, c_slices_stableCmpFunc_impl_Reading), (117, c_cmp_isNaN_int64), (129, c_slices_insertionSortCmpFunc_impl_Reading), (130, c_slices_symMergeCmpFunc_impl_Reading), (137, c_slices_rotateCmpFunc_impl_Reading), (138, c_slices_swapRangeCmpFunc_impl_Reading)]

theorem tb_ok : TbOk Try.prog tb := (.cons h_laws_FnExactInsertReading (.cons h_laws_eqReadingS (.cons h_laws_markReadingS (.cons h_laws_heldReadingS (.cons h_laws_szReadingS (.cons h_laws_toReadingS (.cons h_impl_MergeFeeds (.cons h_spec_InsertReading (.cons h_laws_toReading (.cons h_impl_InsertReading (.cons h_impl_ValidFeed (.cons h_impl_within (.cons h_spec_l00In (.cons h_spec_l04Feed (.cons h_laws_eqReading (.cons h_spec_l04Put (.cons h_slices_Clone_impl_Reading_impl_Reading (.cons h_slices_SortStableFunc_impl_Reading_impl_Reading (.cons h_impl_MergeFeeds_1 (.cons h_cmp_Compare_int64 (.cons h_slices_CompactFunc_impl_Reading_impl_Reading (.cons h_impl_MergeFeeds_2 (.cons h_spec_l04Time (.cons h_laws_toCounts (.cons h_impl_isTime (.cons h_laws_eqCounts (.cons h_slices_stableCmpFunc_impl_Reading (.cons h_cmp_isNaN_int64 (.cons h_slices_insertionSortCmpFunc_impl_Reading (.cons h_slices_symMergeCmpFunc_impl_Reading (.cons h_slices_rotateCmpFunc_impl_Reading (.cons h_slices_swapRangeCmpFunc_impl_Reading .nil))))))))))))))))))))))))))))))))

end Go.Proofs.Ytnleibiniajbnaa
