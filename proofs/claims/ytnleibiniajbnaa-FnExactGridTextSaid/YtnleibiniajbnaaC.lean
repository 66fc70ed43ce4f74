/- The compiled code of the functions, by the theory of the texts Ab; the table of all. -/
import Derived.Test.YtnleibiniajbnaaRows
import Derived.Test.YtnleibiniajbnaaAbD
import Derived.Test.YtnleibiniajbnaaSxC
set_option linter.unusedVariables false
set_option linter.unusedSimpArgs false
namespace Go.Proofs.Ytnleibiniajbnaa
open Go.Ab
def oP (d : Nat) (op : AOp) : AOper := ⟨some d, op, none⟩
def mP (d i : Nat) : AOper := ⟨some d, .move (.tmp i), none⟩
def tP (i : Nat) : Opd := .tmp i






def c_laws_FnExactGridText : AFun := ⟨27, [.tmp 2], .seq (.run [oP 1 (.box (tP 0)), oP 2 (.move (.const (.bool false)))]) (.seq (.run [oP 3 (.move (.const (.int .i64 1048576)))]) (.seq (.run [oP 7 (.load true 3 (tP 1)), mP 8 3, oP 9 (.call 13 [.tmp 7, .tmp 8]), mP 3 9]) (.seq (.seq (.run [mP 10 3, oP 11 (.bin .lss (tP 10) (.const (.int .i64 0)))]) (.cond (tP 11) (.seq (.run [oP 2 (.move (.const (.bool true)))]) (.ret)) (.skip))) (.seq (.run [oP 12 (.load true 3 (tP 1)), oP 13 (.call 15 [.tmp 12]), oP 14 (.call 30 [.tmp 13]), mP 4 14]) (.seq (.run [oP 15 (.load true 3 (tP 1)), oP 16 (.call 15 [.tmp 15]), oP 5 (.alloc [.int .i64 0, .int .i64 0, .nilslice]), ⟨none, .store 3 (tP 5) (tP 16), none⟩]) (.seq (.run [oP 17 (.load true 3 (tP 5)), oP 18 (.call 31 [.tmp 17]), mP 6 18]) (.seq (.seq (.run [mP 19 6, mP 20 4, oP 21 (.bin .neq (tP 19) (tP 20))]) (.cond (tP 21) (.seq (.run [oP 2 (.move (.const (.bool false)))]) (.ret)) (.skip))) (.seq (.seq (.mix (.node [oP 22 (.load true 3 (tP 5)), oP 23 (.load true 3 (tP 1))] (.cons false (oP 24 (.call 15 [.tmp 23])) (.node [] (.cons false (oP 25 (.call 17 [.tmp 22, .tmp 24])) (.node [oP 26 (.un .not (tP 25))] .nil) .nil)) .nil))) (.cond (tP 26) (.seq (.run [oP 2 (.move (.const (.bool false)))]) (.ret)) (.skip))) (.seq (.run [oP 2 (.move (.const (.bool true)))]) (.ret))))))))))⟩
theorem h_laws_FnExactGridText : cFun Try.prog 7 = some c_laws_FnExactGridText := by kernel_rfl






def c_laws_szGrid : AFun := ⟨12, [.tmp 4], .seq (.run [oP 2 (.box (tP 0)), oP 4 (.move (.const (.int .i64 0)))]) (.seq (.run [oP 5 (.faddr 2 (tP 2)), oP 6 (.load false 1 (tP 5)), mP 7 1, oP 8 (.call 67 [.tmp 6, .tmp 7]), mP 1 8]) (.seq (.seq (.run [mP 9 1, oP 10 (.bin .lss (tP 9) (.const (.int .i64 0)))]) (.cond (tP 10) (.seq (.run [oP 4 (.move (.const (.int .i64 (-1))))]) (.ret)) (.skip))) (.seq (.run [mP 11 1, mP 4 11]) (.ret))))⟩
theorem h_laws_szGrid : cFun Try.prog 13 = some c_laws_szGrid := by kernel_rfl


def c_laws_toGrid : AFun := ⟨15, [.cell 2 true 3], .seq (.run [oP 1 (.box (tP 0)), oP 2 (.alloc [.int .i64 0, .int .i64 0, .nilslice])]) (.seq (.run [oP 3 (.alloc [.int .i64 0, .int .i64 0, .nilslice])]) (.seq (.run [oP 4 (.faddr 0 (tP 1)), oP 5 (.load false 1 (tP 4)), oP 6 (.faddr 0 (tP 3)), ⟨none, .store 1 (tP 6) (tP 5), none⟩]) (.seq (.run [oP 7 (.faddr 1 (tP 1)), oP 8 (.load false 1 (tP 7)), oP 9 (.faddr 1 (tP 3)), ⟨none, .store 1 (tP 9) (tP 8), none⟩]) (.seq (.run [oP 10 (.faddr 2 (tP 1)), oP 11 (.load false 1 (tP 10)), oP 12 (.call 33 [.tmp 11]), oP 13 (.faddr 2 (tP 3)), ⟨none, .store 1 (tP 13) (tP 12), none⟩]) (.seq (.run [oP 14 (.load true 3 (tP 3)), ⟨none, .store 3 (tP 2) (tP 14), none⟩]) (.ret))))))⟩
theorem h_laws_toGrid : cFun Try.prog 15 = some c_laws_toGrid := by kernel_rfl

def c_impl_ValidGrid : AFun := ⟨22, [.tmp 2], .seq (.run [oP 1 (.box (tP 0)), oP 2 (.move (.const (.bool false)))]) (.seq (.run [oP 3 (.faddr 0 (tP 1)), oP 4 (.load false 1 (tP 3)), oP 5 (.call 69 [.tmp 4, .const (.int .i64 1), .const (.int .i64 24)]), mP 6 5, ⟨some 7, .faddr 1 (tP 1), some (6, true)⟩, ⟨some 8, .load false 1 (tP 7), some (6, true)⟩, ⟨some 9, .call 69 [.tmp 8, .const (.int .i64 1), .const (.int .i64 24)], some (6, true)⟩, oP 10 (.pick (tP 6) (tP 9) (.const (.bool false))), mP 11 10, ⟨some 12, .faddr 2 (tP 1), some (11, true)⟩, ⟨some 13, .load false 1 (tP 12), some (11, true)⟩, ⟨some 14, .len (tP 13), some (11, true)⟩, ⟨some 15, .faddr 0 (tP 1), some (11, true)⟩, ⟨some 16, .load false 1 (tP 15), some (11, true)⟩, ⟨some 17, .faddr 1 (tP 1), some (11, true)⟩, ⟨some 18, .load false 1 (tP 17), some (11, true)⟩, ⟨some 19, .bin .mul (tP 16) (tP 18), some (11, true)⟩, ⟨some 20, .bin .eql (tP 14) (tP 19), some (11, true)⟩, oP 21 (.pick (tP 11) (tP 20) (.const (.bool false))), mP 2 21]) (.ret))⟩
theorem h_impl_ValidGrid : cFun Try.prog 16 = some c_impl_ValidGrid := by kernel_rfl

def c_laws_eqGrid : AFun := ⟨21, [.tmp 4], .seq (.run [oP 2 (.box (tP 0)), oP 3 (.box (tP 1)), oP 4 (.move (.const (.bool false)))]) (.seq (.seq (.run [oP 5 (.faddr 0 (tP 2)), oP 6 (.load false 1 (tP 5)), oP 7 (.faddr 0 (tP 3)), oP 8 (.load false 1 (tP 7)), oP 9 (.bin .neq (tP 6) (tP 8))]) (.cond (tP 9) (.seq (.run [oP 4 (.move (.const (.bool false)))]) (.ret)) (.skip))) (.seq (.seq (.run [oP 10 (.faddr 1 (tP 2)), oP 11 (.load false 1 (tP 10)), oP 12 (.faddr 1 (tP 3)), oP 13 (.load false 1 (tP 12)), oP 14 (.bin .neq (tP 11) (tP 13))]) (.cond (tP 14) (.seq (.run [oP 4 (.move (.const (.bool false)))]) (.ret)) (.skip))) (.seq (.seq (.run [oP 15 (.faddr 2 (tP 2)), oP 16 (.load false 1 (tP 15)), oP 17 (.faddr 2 (tP 3)), oP 18 (.load false 1 (tP 17)), oP 19 (.call 36 [.tmp 16, .tmp 18]), oP 20 (.un .not (tP 19))]) (.cond (tP 20) (.seq (.run [oP 4 (.move (.const (.bool false)))]) (.ret)) (.skip))) (.seq (.run [oP 4 (.move (.const (.bool true)))]) (.ret)))))⟩
theorem h_laws_eqGrid : cFun Try.prog 17 = some c_laws_eqGrid := by kernel_rfl













def c_spec_GridText : AFun := ⟨6, [.tmp 2], .seq (.run [oP 1 (.box (tP 0)), oP 2 (.move (.const (.str [])))]) (.seq (.seq (.run [oP 3 (.call 68 [.tmp 1]), oP 4 (.un .not (tP 3))]) (.cond (tP 4) (.seq (.run [oP 2 (.move (.const (.str [])))]) (.ret)) (.skip))) (.seq (.run [oP 5 (.call 76 [.tmp 1]), mP 2 5]) (.ret)))⟩
theorem h_spec_GridText : cFun Try.prog 30 = some c_spec_GridText := by kernel_rfl

def c_impl_GridText : AFun := ⟨35, [.tmp 2], .seq (.run [oP 1 (.box (tP 0)), oP 2 (.move (.const (.str [])))]) (.seq (.seq (.run [oP 6 (.load true 3 (tP 1)), oP 7 (.call 16 [.tmp 6]), oP 8 (.un .not (tP 7))]) (.cond (tP 8) (.seq (.run [oP 2 (.move (.const (.str [])))]) (.ret)) (.skip))) (.seq (.run [oP 9 (.bslice 1 0 [] []), mP 3 9]) (.seq (.seq (.run [oP 10 (.faddr 2 (tP 1)), oP 11 (.load false 1 (tP 10)), oP 12 (.len (tP 11)), oP 13 (.move (.const (.int .i64 0)))]) (.block 0 (.loop (.seq (.run [oP 14 (.bin .lss (tP 13) (tP 12))]) (.seq (.cond (tP 14) (.skip) (.exit 0)) (.seq (.block 1 (.seq (.run [mP 15 13, oP 16 (.iaSl 1 (tP 11) (tP 13)), oP 17 (.load false 1 (tP 16)), mP 4 15, mP 5 17]) (.seq (.run [mP 18 3, mP 19 5, oP 20 (.call 77 [.tmp 19]), oP 21 (.bslice 1 1 [.int .u8 0] [(0, 1, .tmp 20)]), oP 22 (.append 1 1 (tP 18) (tP 21)), mP 3 22]) (.seq (.run [mP 23 4, oP 24 (.bin .add (tP 23) (.const (.int .i64 1))), oP 25 (.faddr 0 (tP 1)), oP 26 (.load false 1 (tP 25)), oP 27 (.bin .rem (tP 24) (tP 26)), oP 28 (.bin .eql (tP 27) (.const (.int .i64 0)))]) (.cond (tP 28) (.run [mP 29 3, oP 30 (.bslice 1 1 [.int .u8 0] [(0, 1, .const (.int .u8 10))]), oP 31 (.append 1 1 (tP 29) (tP 30)), mP 3 31]) (.skip)))))) (.run [oP 32 (.bin .add (tP 13) (.const (.int .i64 1))), mP 13 32]))))))) (.seq (.run [mP 33 3, oP 34 (.conv (.bs) (tP 33)), mP 2 34]) (.ret)))))⟩
theorem h_impl_GridText : cFun Try.prog 31 = some c_impl_GridText := by kernel_rfl


def c_laws_toByteS : AFun := ⟨22, [.tmp 2], .seq (.run [oP 2 (.move (.const (.nilslice)))]) (.seq (.run [mP 5 0, oP 6 (.len (tP 5)), oP 7 (.mkSlice 1 1 [.int .u8 0] (tP 6) (tP 6)), mP 3 7]) (.seq (.seq (.run [oP 4 (.move (.const (.int .i64 0)))]) (.block 0 (.loop (.seq (.seq (.run [mP 8 4, mP 9 0, oP 10 (.len (tP 9)), oP 11 (.bin .lss (tP 8) (tP 10))]) (.cond (tP 11) (.skip) (.exit 0))) (.seq (.block 1 (.run [mP 14 3, mP 15 4, mP 16 0, mP 17 4, oP 18 (.iaSl 1 (tP 16) (tP 17)), oP 19 (.load false 1 (tP 18)), oP 20 (.iaSl 1 (tP 14) (tP 15)), ⟨none, .store 1 (tP 20) (tP 19), none⟩])) (.run [mP 12 4, oP 13 (.bin .add (tP 12) (.const (.int .i64 1))), mP 4 13])))))) (.seq (.run [mP 21 3, mP 2 21]) (.ret))))⟩
theorem h_laws_toByteS : cFun Try.prog 33 = some c_laws_toByteS := by kernel_rfl



def c_laws_eqByteS : AFun := ⟨26, [.tmp 4], .seq (.run [oP 4 (.move (.const (.bool false)))]) (.seq (.seq (.run [mP 6 0, oP 7 (.len (tP 6)), mP 8 1, oP 9 (.len (tP 8)), oP 10 (.bin .neq (tP 7) (tP 9))]) (.cond (tP 10) (.seq (.run [oP 4 (.move (.const (.bool false)))]) (.ret)) (.skip))) (.seq (.seq (.run [oP 5 (.move (.const (.int .i64 0)))]) (.block 0 (.loop (.seq (.seq (.run [mP 11 5, mP 12 0, oP 13 (.len (tP 12)), oP 14 (.bin .lss (tP 11) (tP 13))]) (.cond (tP 14) (.skip) (.exit 0))) (.seq (.block 1 (.seq (.mix (.node [mP 17 0, mP 18 5, oP 19 (.iaSl 1 (tP 17) (tP 18)), oP 20 (.load false 1 (tP 19)), mP 21 1, mP 22 5, oP 23 (.iaSl 1 (tP 21) (tP 22)), oP 24 (.load false 1 (tP 23)), oP 25 (.bin .neq (tP 20) (tP 24))] .nil)) (.cond (tP 25) (.seq (.run [oP 4 (.move (.const (.bool false)))]) (.ret)) (.skip)))) (.run [mP 15 5, oP 16 (.bin .add (tP 15) (.const (.int .i64 1))), mP 5 16])))))) (.seq (.run [oP 4 (.move (.const (.bool true)))]) (.ret))))⟩
theorem h_laws_eqByteS : cFun Try.prog 36 = some c_laws_eqByteS := by kernel_rfl





























def c_laws_szByteS : AFun := ⟨12, [.tmp 4], .seq (.run [oP 4 (.move (.const (.int .i64 0)))]) (.seq (.run [mP 5 1, mP 6 0, oP 7 (.len (tP 6)), oP 8 (.bin .sub (tP 5) (tP 7)), mP 1 8]) (.seq (.seq (.run [mP 9 1, oP 10 (.bin .lss (tP 9) (.const (.int .i64 0)))]) (.cond (tP 10) (.seq (.run [oP 4 (.move (.const (.int .i64 (-1))))]) (.ret)) (.skip))) (.seq (.run [mP 11 1, mP 4 11]) (.ret))))⟩
theorem h_laws_szByteS : cFun Try.prog 67 = some c_laws_szByteS := by kernel_rfl

def c_spec_l07Ok : AFun := ⟨32, [.tmp 2], .seq (.run [oP 2 (.move (.const (.bool false)))]) (.seq (.mix (.node [mP 3 0, oP 4 (.nilCheck (tP 3)), oP 5 (.faddr 0 (tP 4)), oP 6 (.load false 1 (tP 5))] (.cons true (oP 7 (.call 70 [.tmp 6, .const (.int .i64 1), .const (.int .i64 24)])) (.node [mP 8 7, ⟨some 9, .move (tP 0), some (8, true)⟩, ⟨some 10, .nilCheck (tP 9), some (8, true)⟩, ⟨some 11, .faddr 1 (tP 10), some (8, true)⟩, ⟨some 12, .load false 1 (tP 11), some (8, true)⟩] (.cons false ⟨some 13, .call 70 [.tmp 12, .const (.int .i64 1), .const (.int .i64 24)], some (8, true)⟩ (.node [oP 14 (.pick (tP 8) (tP 13) (.const (.bool false))), mP 15 14, ⟨some 16, .move (tP 0), some (15, true)⟩, ⟨some 17, .nilCheck (tP 16), some (15, true)⟩, ⟨some 18, .faddr 2 (tP 17), some (15, true)⟩, ⟨some 19, .load false 1 (tP 18), some (15, true)⟩, ⟨some 20, .len (tP 19), some (15, true)⟩, ⟨some 21, .move (tP 0), some (15, true)⟩, ⟨some 22, .nilCheck (tP 21), some (15, true)⟩, ⟨some 23, .faddr 0 (tP 22), some (15, true)⟩, ⟨some 24, .load false 1 (tP 23), some (15, true)⟩, ⟨some 25, .move (tP 0), some (15, true)⟩, ⟨some 26, .nilCheck (tP 25), some (15, true)⟩, ⟨some 27, .faddr 1 (tP 26), some (15, true)⟩, ⟨some 28, .load false 1 (tP 27), some (15, true)⟩, ⟨some 29, .bin .mul (tP 24) (tP 28), some (15, true)⟩, ⟨some 30, .bin .eql (tP 20) (tP 29), some (15, true)⟩, oP 31 (.pick (tP 15) (tP 30) (.const (.bool false))), mP 2 31] .nil) .nil)) .nil))) (.ret))⟩
theorem h_spec_l07Ok : cFun Try.prog 68 = some c_spec_l07Ok := by kernel_rfl

def c_impl_within : AFun := ⟨15, [.tmp 6], .seq (.run [oP 6 (.move (.const (.bool false)))]) (.seq (.run [mP 7 0, mP 8 1, oP 9 (.bin .geq (tP 7) (tP 8)), mP 10 9, ⟨some 11, .move (tP 0), some (10, true)⟩, ⟨some 12, .move (tP 2), some (10, true)⟩, ⟨some 13, .bin .leq (tP 11) (tP 12), some (10, true)⟩, oP 14 (.pick (tP 10) (tP 13) (.const (.bool false))), mP 6 14]) (.ret))⟩
theorem h_impl_within : cFun Try.prog 69 = some c_impl_within := by kernel_rfl

def c_spec_l00In : AFun := ⟨15, [.tmp 6], .seq (.run [oP 6 (.move (.const (.bool false)))]) (.seq (.run [mP 7 0, mP 8 1, oP 9 (.bin .geq (tP 7) (tP 8)), mP 10 9, ⟨some 11, .move (tP 0), some (10, true)⟩, ⟨some 12, .move (tP 2), some (10, true)⟩, ⟨some 13, .bin .leq (tP 11) (tP 12), some (10, true)⟩, oP 14 (.pick (tP 10) (tP 13) (.const (.bool false))), mP 6 14]) (.ret))⟩
theorem h_spec_l00In : cFun Try.prog 70 = some c_spec_l00In := by kernel_rfl





def c_spec_l07Text : AFun := ⟨39, [.tmp 2], .seq (.run [oP 2 (.move (.const (.str [])))]) (.seq (.run [oP 5 (.bslice 1 0 [] []), mP 3 5]) (.seq (.seq (.run [oP 4 (.move (.const (.int .i64 0)))]) (.block 0 (.loop (.seq (.seq (.run [mP 6 4, mP 7 0, oP 8 (.nilCheck (tP 7)), oP 9 (.faddr 2 (tP 8)), oP 10 (.load false 1 (tP 9)), oP 11 (.len (tP 10)), oP 12 (.bin .lss (tP 6) (tP 11))]) (.cond (tP 12) (.skip) (.exit 0))) (.seq (.block 1 (.seq (.run [mP 15 3, mP 16 0, oP 17 (.nilCheck (tP 16)), oP 18 (.faddr 2 (tP 17)), oP 19 (.load false 1 (tP 18)), mP 20 4, oP 21 (.iaSl 1 (tP 19) (tP 20)), oP 22 (.load false 1 (tP 21)), oP 23 (.call 114 [.tmp 22]), oP 24 (.bslice 1 1 [.int .u8 0] [(0, 1, .tmp 23)]), oP 25 (.append 1 1 (tP 15) (tP 24)), mP 3 25]) (.seq (.run [mP 26 4, oP 27 (.bin .add (tP 26) (.const (.int .i64 1))), mP 28 0, oP 29 (.nilCheck (tP 28)), oP 30 (.faddr 0 (tP 29)), oP 31 (.load false 1 (tP 30)), oP 32 (.bin .rem (tP 27) (tP 31)), oP 33 (.bin .eql (tP 32) (.const (.int .i64 0)))]) (.cond (tP 33) (.run [mP 34 3, oP 35 (.bslice 1 1 [.int .u8 0] [(0, 1, .const (.int .u8 10))]), oP 36 (.append 1 1 (tP 34) (tP 35)), mP 3 36]) (.skip))))) (.run [mP 13 4, oP 14 (.bin .add (tP 13) (.const (.int .i64 1))), mP 4 14])))))) (.seq (.run [mP 37 3, oP 38 (.conv (.bs) (tP 37)), mP 2 38]) (.ret))))⟩
theorem h_spec_l07Text : cFun Try.prog 76 = some c_spec_l07Text := by kernel_rfl

def c_impl_costLetter : AFun := ⟨20, [.tmp 2], .seq (.run [oP 2 (.move (.const (.int .u8 0)))]) (.seq (.block 0 (.seq (.run [mP 4 0, oP 5 (.bin .eql (tP 4) (.const (.int .u8 0))), mP 3 5]) (.cond (tP 3) (.seq (.run [oP 2 (.move (.const (.int .u8 46)))]) (.ret)) (.seq (.run [mP 7 0, oP 8 (.bin .eql (tP 7) (.const (.int .u8 255))), mP 6 8]) (.cond (tP 6) (.seq (.run [oP 2 (.move (.const (.int .u8 35)))]) (.ret)) (.seq (.run [mP 10 0, oP 11 (.bin .rem (tP 10) (.const (.int .u8 10))), oP 12 (.bin .eql (tP 11) (.const (.int .u8 0))), mP 13 12, ⟨some 14, .move (tP 0), some (13, true)⟩, ⟨some 15, .bin .leq (tP 14) (.const (.int .u8 90)), some (13, true)⟩, oP 16 (.pick (tP 13) (tP 15) (.const (.bool false))), mP 9 16]) (.cond (tP 9) (.seq (.run [mP 17 0, oP 18 (.bin .quo (tP 17) (.const (.int .u8 10))), oP 19 (.bin .add (.const (.int .u8 48)) (tP 18)), mP 2 19]) (.ret)) (.skip)))))))) (.seq (.run [oP 2 (.move (.const (.int .u8 63)))]) (.ret)))⟩
theorem h_impl_costLetter : cFun Try.prog 77 = some c_impl_costLetter := by kernel_rfl





































def c_spec_l07Sign : AFun := ⟨20, [.tmp 2], .seq (.run [oP 2 (.move (.const (.int .u8 0)))]) (.seq (.block 0 (.seq (.run [mP 4 0, oP 5 (.bin .eql (tP 4) (.const (.int .u8 0))), mP 3 5]) (.cond (tP 3) (.seq (.run [oP 2 (.move (.const (.int .u8 46)))]) (.ret)) (.seq (.run [mP 7 0, oP 8 (.bin .eql (tP 7) (.const (.int .u8 255))), mP 6 8]) (.cond (tP 6) (.seq (.run [oP 2 (.move (.const (.int .u8 35)))]) (.ret)) (.seq (.run [mP 10 0, oP 11 (.bin .rem (tP 10) (.const (.int .u8 10))), oP 12 (.bin .eql (tP 11) (.const (.int .u8 0))), mP 13 12, ⟨some 14, .move (tP 0), some (13, true)⟩, ⟨some 15, .bin .leq (tP 14) (.const (.int .u8 90)), some (13, true)⟩, oP 16 (.pick (tP 13) (tP 15) (.const (.bool false))), mP 9 16]) (.cond (tP 9) (.seq (.run [mP 17 0, oP 18 (.bin .quo (tP 17) (.const (.int .u8 10))), oP 19 (.bin .add (.const (.int .u8 48)) (tP 18)), mP 2 19]) (.ret)) (.skip)))))))) (.seq (.run [oP 2 (.move (.const (.int .u8 63)))]) (.ret)))⟩
theorem h_spec_l07Sign : cFun Try.prog 114 = some c_spec_l07Sign := by kernel_rfl






















def tb : List (Nat × AFun) := [(7, c_laws_FnExactGridText), (13, c_laws_szGrid), (15, c_laws_toGrid), (16, c_impl_ValidGrid), (17, c_laws_eqGrid), (30, c_spec_GridText), (31, c_impl_GridText), (33, c_laws_toByteS), (36, c_laws_eqByteS), (67, c_laws_szByteS), (68, c_spec_l07Ok), (69, c_impl_within), (70, c_spec_l00In), (76, c_spec_l07Text), (77, c_impl_costLetter), (114, c_spec_l07Sign)]

theorem tb_ok : TbOk Try.prog tb := (.cons h_laws_FnExactGridText (.cons h_laws_szGrid (.cons h_laws_toGrid (.cons h_impl_ValidGrid (.cons h_laws_eqGrid (.cons h_spec_GridText (.cons h_impl_GridText (.cons h_laws_toByteS (.cons h_laws_eqByteS (.cons h_laws_szByteS (.cons h_spec_l07Ok (.cons h_impl_within (.cons h_spec_l00In (.cons h_spec_l07Text (.cons h_impl_costLetter (.cons h_spec_l07Sign .nil))))))))))))))))

end Go.Proofs.Ytnleibiniajbnaa
