/- The compiled code of the functions, by the theory of the texts Ab; the table of all. -/
import Derived.Test.YtgjhjemmddojfaaRows
import Derived.Test.YtgjhjemmddojfaaAbD
import Derived.Test.YtgjhjemmddojfaaSxC
set_option linter.unusedVariables false
set_option linter.unusedSimpArgs false
namespace Go.Proofs.Ytgjhjemmddojfaa
open Go.Ab




def c_laws_FnExactCellOf : AFun := ⟨32, [.tmp 4], .seq (.run [⟨some 3, .box (.tmp 1), none⟩, ⟨some 4, .move (.const (.bool false)), none⟩]) (.seq (.run [⟨some 10, .move (.tmp 0), none⟩, ⟨some 11, .load true 3 (.tmp 3), none⟩, ⟨some 12, .call 22 [.tmp 11], none⟩, ⟨some 13, .call 21 [.tmp 10, .tmp 12], none⟩, ⟨some 9, .move (.tmp 13), none⟩, ⟨some 14, .extract 0 (.tmp 9), none⟩, ⟨some 15, .extract 1 (.tmp 9), none⟩, ⟨some 5, .alloc [.int .i32 0, .int .i32 0, .int .i32 0], none⟩, ⟨none, .store 3 (.tmp 5) (.tmp 14), none⟩, ⟨some 6, .move (.tmp 15), none⟩]) (.seq (.run [⟨some 17, .move (.tmp 0), none⟩, ⟨some 18, .load true 3 (.tmp 3), none⟩, ⟨some 19, .call 22 [.tmp 18], none⟩, ⟨some 20, .call 23 [.tmp 17, .tmp 19], none⟩, ⟨some 16, .move (.tmp 20), none⟩, ⟨some 21, .extract 0 (.tmp 16), none⟩, ⟨some 22, .extract 1 (.tmp 16), none⟩, ⟨some 7, .alloc [.int .i32 0, .int .i32 0, .int .i32 0], none⟩, ⟨none, .store 3 (.tmp 7) (.tmp 21), none⟩, ⟨some 8, .move (.tmp 22), none⟩]) (.seq (.seq (.run [⟨some 23, .load true 3 (.tmp 7), none⟩, ⟨some 24, .load true 3 (.tmp 5), none⟩, ⟨some 25, .call 24 [.tmp 23, .tmp 24], none⟩, ⟨some 26, .un .not (.tmp 25), none⟩, ⟨some 27, .move (.tmp 26), none⟩, ⟨some 28, .move (.tmp 8), some (27, false)⟩, ⟨some 29, .move (.tmp 6), some (27, false)⟩, ⟨some 30, .bin .neq (.tmp 28) (.tmp 29), some (27, false)⟩, ⟨some 31, .pick (.tmp 27) (.const (.bool true)) (.tmp 30), none⟩]) (.cond (.tmp 31) (.seq (.run [⟨some 4, .move (.const (.bool false)), none⟩]) (.ret)) (.skip))) (.seq (.run [⟨some 4, .move (.const (.bool true)), none⟩]) (.ret)))))⟩
theorem h_laws_FnExactCellOf : cFun Try.prog 5 = some c_laws_FnExactCellOf := by kernel_rfl
















def c_spec_CellOf : AFun := ⟨11, [.cell 4 true 3, .tmp 5], .seq (.run [⟨some 3, .box (.tmp 1), none⟩, ⟨some 4, .alloc [.int .i32 0, .int .i32 0, .int .i32 0], none⟩, ⟨some 5, .move (.const (.int .i64 0)), none⟩]) (.seq (.run [⟨some 6, .move (.tmp 0), none⟩, ⟨some 7, .load true 3 (.tmp 3), none⟩, ⟨some 8, .call 60 [.tmp 6, .tmp 7], none⟩, ⟨some 9, .extract 0 (.tmp 8), none⟩, ⟨some 10, .extract 1 (.tmp 8), none⟩, ⟨none, .store 3 (.tmp 4) (.tmp 9), none⟩, ⟨some 5, .move (.tmp 10), none⟩]) (.ret))⟩
theorem h_spec_CellOf : cFun Try.prog 21 = some c_spec_CellOf := by kernel_rfl

def c_laws_toVec : AFun := ⟨15, [.cell 2 true 3], .seq (.run [⟨some 1, .box (.tmp 0), none⟩, ⟨some 2, .alloc [.flt .f32 (some 0), .flt .f32 (some 0), .flt .f32 (some 0)], none⟩]) (.seq (.run [⟨some 3, .alloc [.flt .f32 (some 0), .flt .f32 (some 0), .flt .f32 (some 0)], none⟩]) (.seq (.seq (.run [⟨some 4, .move (.const (.int .i64 0)), none⟩]) (.block 0 (.loop (.seq (.seq (.run [⟨some 5, .move (.tmp 4), none⟩, ⟨some 6, .bin .lss (.tmp 5) (.const (.int .i64 3)), none⟩]) (.cond (.tmp 6) (.skip) (.exit 0))) (.seq (.block 1 (.run [⟨some 9, .move (.tmp 4), none⟩, ⟨some 10, .move (.tmp 4), none⟩, ⟨some 11, .iaArr 3 1 (.tmp 1) (.tmp 10), none⟩, ⟨some 12, .load false 1 (.tmp 11), none⟩, ⟨some 13, .iaArr 3 1 (.tmp 3) (.tmp 9), none⟩, ⟨none, .store 1 (.tmp 13) (.tmp 12), none⟩])) (.run [⟨some 7, .move (.tmp 4), none⟩, ⟨some 8, .bin .add (.tmp 7) (.const (.int .i64 1)), none⟩, ⟨some 4, .move (.tmp 8), none⟩])))))) (.seq (.run [⟨some 14, .load true 3 (.tmp 3), none⟩, ⟨none, .store 3 (.tmp 2) (.tmp 14), none⟩]) (.ret))))⟩
theorem h_laws_toVec : cFun Try.prog 22 = some c_laws_toVec := by kernel_rfl

def c_impl_CellOf : AFun := ⟨40, [.cell 4 true 3, .tmp 5], .seq (.run [⟨some 3, .box (.tmp 1), none⟩, ⟨some 4, .alloc [.int .i32 0, .int .i32 0, .int .i32 0], none⟩, ⟨some 5, .move (.const (.int .i64 0)), none⟩]) (.seq (.seq (.run [⟨some 10, .move (.tmp 0), none⟩, ⟨some 11, .call 61 [.tmp 10], none⟩, ⟨some 12, .un .not (.tmp 11), none⟩, ⟨some 13, .move (.tmp 12), none⟩, ⟨some 14, .load true 3 (.tmp 3), some (13, false)⟩, ⟨some 15, .call 62 [.tmp 14], some (13, false)⟩, ⟨some 16, .un .not (.tmp 15), some (13, false)⟩, ⟨some 17, .pick (.tmp 13) (.const (.bool true)) (.tmp 16), none⟩]) (.cond (.tmp 17) (.seq (.run [⟨some 18, .build [.int .i32 0, .int .i32 0, .int .i32 0] [], none⟩, ⟨none, .store 3 (.tmp 4) (.tmp 18), none⟩, ⟨some 5, .move (.const (.int .i64 2)), none⟩]) (.ret)) (.skip))) (.seq (.run [⟨some 19, .build [.int .i32 0, .int .i32 0, .int .i32 0] [], none⟩, ⟨some 6, .alloc [.int .i32 0, .int .i32 0, .int .i32 0], none⟩, ⟨none, .store 3 (.tmp 6) (.tmp 19), none⟩]) (.seq (.seq (.run [⟨some 20, .load true 3 (.tmp 3), none⟩, ⟨some 21, .move (.const (.int .i64 0)), none⟩]) (.block 0 (.loop (.seq (.run [⟨some 22, .bin .lss (.tmp 21) (.const (.int .i64 3)), none⟩]) (.seq (.cond (.tmp 22) (.skip) (.exit 0)) (.seq (.block 1 (.seq (.run [⟨some 23, .move (.tmp 21), none⟩, ⟨some 24, .ixArr 3 false 1 (.tmp 20) (.tmp 21), none⟩, ⟨some 7, .move (.tmp 23), none⟩, ⟨some 8, .move (.tmp 24), none⟩]) (.seq (.run [⟨some 25, .move (.tmp 8), none⟩, ⟨some 26, .move (.tmp 0), none⟩, ⟨some 27, .bin .quo (.tmp 25) (.tmp 26), none⟩, ⟨some 28, .conv (.ff .f64) (.tmp 27), none⟩, ⟨some 29, .call 63 [.tmp 28], none⟩, ⟨some 9, .move (.tmp 29), none⟩]) (.seq (.seq (.run [⟨some 30, .move (.tmp 9), none⟩, ⟨some 31, .call 64 [.tmp 30], none⟩, ⟨some 32, .bin .gtr (.tmp 31) (.const (.flt .f64 (some 4696837146684686336))), none⟩]) (.cond (.tmp 32) (.seq (.run [⟨some 33, .build [.int .i32 0, .int .i32 0, .int .i32 0] [], none⟩, ⟨none, .store 3 (.tmp 4) (.tmp 33), none⟩, ⟨some 5, .move (.const (.int .i64 3)), none⟩]) (.ret)) (.skip))) (.run [⟨some 34, .move (.tmp 7), none⟩, ⟨some 35, .move (.tmp 9), none⟩, ⟨some 36, .conv (.fi .i32) (.tmp 35), none⟩, ⟨some 37, .iaArr 3 1 (.tmp 6) (.tmp 34), none⟩, ⟨none, .store 1 (.tmp 37) (.tmp 36), none⟩]))))) (.run [⟨some 38, .bin .add (.tmp 21) (.const (.int .i64 1)), none⟩, ⟨some 21, .move (.tmp 38), none⟩]))))))) (.seq (.run [⟨some 39, .load true 3 (.tmp 6), none⟩, ⟨none, .store 3 (.tmp 4) (.tmp 39), none⟩, ⟨some 5, .move (.const (.int .i64 0)), none⟩]) (.ret)))))⟩
theorem h_impl_CellOf : cFun Try.prog 23 = some c_impl_CellOf := by kernel_rfl

def c_laws_eqPlace : AFun := ⟨17, [.tmp 4], .seq (.run [⟨some 2, .box (.tmp 0), none⟩, ⟨some 3, .box (.tmp 1), none⟩, ⟨some 4, .move (.const (.bool false)), none⟩]) (.seq (.seq (.run [⟨some 5, .move (.const (.int .i64 0)), none⟩]) (.block 0 (.loop (.seq (.seq (.run [⟨some 6, .move (.tmp 5), none⟩, ⟨some 7, .bin .lss (.tmp 6) (.const (.int .i64 3)), none⟩]) (.cond (.tmp 7) (.skip) (.exit 0))) (.seq (.block 1 (.seq (.mix (.node [⟨some 10, .move (.tmp 5), none⟩, ⟨some 11, .iaArr 3 1 (.tmp 2) (.tmp 10), none⟩, ⟨some 12, .load false 1 (.tmp 11), none⟩, ⟨some 13, .move (.tmp 5), none⟩, ⟨some 14, .iaArr 3 1 (.tmp 3) (.tmp 13), none⟩, ⟨some 15, .load false 1 (.tmp 14), none⟩, ⟨some 16, .bin .neq (.tmp 12) (.tmp 15), none⟩] .nil)) (.cond (.tmp 16) (.seq (.run [⟨some 4, .move (.const (.bool false)), none⟩]) (.ret)) (.skip)))) (.run [⟨some 8, .move (.tmp 5), none⟩, ⟨some 9, .bin .add (.tmp 8) (.const (.int .i64 1)), none⟩, ⟨some 5, .move (.tmp 9), none⟩])))))) (.seq (.run [⟨some 4, .move (.const (.bool true)), none⟩]) (.ret)))⟩
theorem h_laws_eqPlace : cFun Try.prog 24 = some c_laws_eqPlace := by kernel_rfl




































def c_spec_l05Cell : AFun := ⟨43, [.cell 4 true 3, .tmp 5], .seq (.run [⟨some 3, .box (.tmp 1), none⟩, ⟨some 4, .alloc [.int .i32 0, .int .i32 0, .int .i32 0], none⟩, ⟨some 5, .move (.const (.int .i64 0)), none⟩]) (.seq (.seq (.run [⟨some 9, .move (.tmp 0), none⟩, ⟨some 10, .call 65 [.tmp 9], none⟩, ⟨some 11, .un .not (.tmp 10), none⟩, ⟨some 12, .move (.tmp 11), none⟩, ⟨some 13, .load true 3 (.tmp 3), some (12, false)⟩, ⟨some 14, .call 83 [.tmp 13], some (12, false)⟩, ⟨some 15, .un .not (.tmp 14), some (12, false)⟩, ⟨some 16, .pick (.tmp 12) (.const (.bool true)) (.tmp 15), none⟩]) (.cond (.tmp 16) (.seq (.run [⟨some 17, .build [.int .i32 0, .int .i32 0, .int .i32 0] [], none⟩, ⟨none, .store 3 (.tmp 4) (.tmp 17), none⟩, ⟨some 5, .move (.const (.int .i64 2)), none⟩]) (.ret)) (.skip))) (.seq (.run [⟨some 18, .build [.int .i32 0, .int .i32 0, .int .i32 0] [], none⟩, ⟨some 6, .alloc [.int .i32 0, .int .i32 0, .int .i32 0], none⟩, ⟨none, .store 3 (.tmp 6) (.tmp 18), none⟩]) (.seq (.seq (.run [⟨some 7, .move (.const (.int .i64 0)), none⟩]) (.block 0 (.loop (.seq (.seq (.run [⟨some 19, .move (.tmp 7), none⟩, ⟨some 20, .bin .lss (.tmp 19) (.const (.int .i64 3)), none⟩]) (.cond (.tmp 20) (.skip) (.exit 0))) (.seq (.block 1 (.seq (.run [⟨some 23, .move (.tmp 7), none⟩, ⟨some 24, .iaArr 3 1 (.tmp 3) (.tmp 23), none⟩, ⟨some 25, .load false 1 (.tmp 24), none⟩, ⟨some 26, .move (.tmp 0), none⟩, ⟨some 27, .bin .quo (.tmp 25) (.tmp 26), none⟩, ⟨some 28, .conv (.ff .f64) (.tmp 27), none⟩, ⟨some 29, .call 63 [.tmp 28], none⟩, ⟨some 8, .move (.tmp 29), none⟩]) (.seq (.seq (.run [⟨some 30, .move (.tmp 8), none⟩, ⟨some 31, .bin .geq (.tmp 30) (.const (.flt .f64 (some 13920209183539462144))), none⟩, ⟨some 32, .move (.tmp 31), none⟩, ⟨some 33, .move (.tmp 8), some (32, true)⟩, ⟨some 34, .bin .leq (.tmp 33) (.const (.flt .f64 (some 4696837146684686336))), some (32, true)⟩, ⟨some 35, .pick (.tmp 32) (.tmp 34) (.const (.bool false)), none⟩, ⟨some 36, .un .not (.tmp 35), none⟩]) (.cond (.tmp 36) (.seq (.run [⟨some 37, .build [.int .i32 0, .int .i32 0, .int .i32 0] [], none⟩, ⟨none, .store 3 (.tmp 4) (.tmp 37), none⟩, ⟨some 5, .move (.const (.int .i64 3)), none⟩]) (.ret)) (.skip))) (.run [⟨some 38, .move (.tmp 7), none⟩, ⟨some 39, .move (.tmp 8), none⟩, ⟨some 40, .conv (.fi .i32) (.tmp 39), none⟩, ⟨some 41, .iaArr 3 1 (.tmp 6) (.tmp 38), none⟩, ⟨none, .store 1 (.tmp 41) (.tmp 40), none⟩])))) (.run [⟨some 21, .move (.tmp 7), none⟩, ⟨some 22, .bin .add (.tmp 21) (.const (.int .i64 1)), none⟩, ⟨some 7, .move (.tmp 22), none⟩])))))) (.seq (.run [⟨some 42, .load true 3 (.tmp 6), none⟩, ⟨none, .store 3 (.tmp 4) (.tmp 42), none⟩, ⟨some 5, .move (.const (.int .i64 0)), none⟩]) (.ret)))))⟩
theorem h_spec_l05Cell : cFun Try.prog 60 = some c_spec_l05Cell := by kernel_rfl

def c_impl_isSide : AFun := ⟨10, [.tmp 2], .seq (.run [⟨some 2, .move (.const (.bool false)), none⟩]) (.seq (.run [⟨some 3, .move (.tmp 0), none⟩, ⟨some 4, .bslice 1 1 [.flt .f32 (some 0)] [(0, 1, .tmp 3)], none⟩, ⟨some 5, .call 98 [.tmp 4], none⟩, ⟨some 6, .move (.tmp 5), none⟩, ⟨some 7, .move (.tmp 0), some (6, true)⟩, ⟨some 8, .bin .gtr (.tmp 7) (.const (.flt .f32 (some 0))), some (6, true)⟩, ⟨some 9, .pick (.tmp 6) (.tmp 8) (.const (.bool false)), none⟩, ⟨some 2, .move (.tmp 9), none⟩]) (.ret))⟩
theorem h_impl_isSide : cFun Try.prog 61 = some c_impl_isSide := by kernel_rfl

def c_impl_IsFiniteVec : AFun := ⟨5, [.tmp 2], .seq (.run [⟨some 1, .box (.tmp 0), none⟩, ⟨some 2, .move (.const (.bool false)), none⟩]) (.seq (.run [⟨some 3, .slArr 3 1 (.tmp 1) none none none, none⟩, ⟨some 4, .call 98 [.tmp 3], none⟩, ⟨some 2, .move (.tmp 4), none⟩]) (.ret))⟩
theorem h_impl_IsFiniteVec : cFun Try.prog 62 = some c_impl_IsFiniteVec := by kernel_rfl

def c_math_Floor : AFun := ⟨7, [.tmp 2], .seq (.run [⟨some 2, .move (.const (.flt .f64 (some 0))), none⟩]) (.seq (.cond (.const (.bool true)) (.seq (.run [⟨some 3, .move (.tmp 0), none⟩, ⟨some 4, .call 99 [.tmp 3], none⟩, ⟨some 2, .move (.tmp 4), none⟩]) (.ret)) (.skip)) (.seq (.run [⟨some 5, .move (.tmp 0), none⟩, ⟨some 6, .call 100 [.tmp 5], none⟩, ⟨some 2, .move (.tmp 6), none⟩]) (.ret)))⟩
theorem h_math_Floor : cFun Try.prog 63 = some c_math_Floor := by kernel_rfl

def c_math_Abs : AFun := ⟨7, [.tmp 2], .seq (.run [⟨some 2, .move (.const (.flt .f64 (some 0))), none⟩]) (.seq (.run [⟨some 3, .move (.tmp 0), none⟩, ⟨some 4, .call 97 [.tmp 3], none⟩, ⟨some 5, .bin .andNot (.tmp 4) (.const (.int .u64 9223372036854775808)), none⟩, ⟨some 6, .call 101 [.tmp 5], none⟩, ⟨some 2, .move (.tmp 6), none⟩]) (.ret))⟩
theorem h_math_Abs : cFun Try.prog 64 = some c_math_Abs := by kernel_rfl

def c_spec_l05Side : AFun := ⟨9, [.tmp 2], .seq (.run [⟨some 2, .move (.const (.bool false)), none⟩]) (.seq (.run [⟨some 3, .move (.tmp 0), none⟩, ⟨some 4, .call 92 [.tmp 3], none⟩, ⟨some 5, .move (.tmp 4), none⟩, ⟨some 6, .move (.tmp 0), some (5, true)⟩, ⟨some 7, .bin .gtr (.tmp 6) (.const (.flt .f32 (some 0))), some (5, true)⟩, ⟨some 8, .pick (.tmp 5) (.tmp 7) (.const (.bool false)), none⟩, ⟨some 2, .move (.tmp 8), none⟩]) (.ret))⟩
theorem h_spec_l05Side : cFun Try.prog 65 = some c_spec_l05Side := by kernel_rfl


















def c_spec_l01Vec : AFun := ⟨16, [.tmp 2], .seq (.run [⟨some 1, .box (.tmp 0), none⟩, ⟨some 2, .move (.const (.bool false)), none⟩]) (.seq (.run [⟨some 3, .iaArr 3 1 (.tmp 1) (.const (.int .i64 0)), none⟩, ⟨some 4, .load false 1 (.tmp 3), none⟩, ⟨some 5, .call 92 [.tmp 4], none⟩, ⟨some 6, .move (.tmp 5), none⟩, ⟨some 7, .iaArr 3 1 (.tmp 1) (.const (.int .i64 1)), some (6, true)⟩, ⟨some 8, .load false 1 (.tmp 7), some (6, true)⟩, ⟨some 9, .call 92 [.tmp 8], some (6, true)⟩, ⟨some 10, .pick (.tmp 6) (.tmp 9) (.const (.bool false)), none⟩, ⟨some 11, .move (.tmp 10), none⟩, ⟨some 12, .iaArr 3 1 (.tmp 1) (.const (.int .i64 2)), some (11, true)⟩, ⟨some 13, .load false 1 (.tmp 12), some (11, true)⟩, ⟨some 14, .call 92 [.tmp 13], some (11, true)⟩, ⟨some 15, .pick (.tmp 11) (.tmp 14) (.const (.bool false)), none⟩, ⟨some 2, .move (.tmp 15), none⟩]) (.ret))⟩
theorem h_spec_l01Vec : cFun Try.prog 83 = some c_spec_l01Vec := by kernel_rfl









def c_spec_l01Finite : AFun := ⟨7, [.tmp 2], .seq (.run [⟨some 2, .move (.const (.bool false)), none⟩]) (.seq (.run [⟨some 3, .move (.tmp 0), none⟩, ⟨some 4, .move (.tmp 0), none⟩, ⟨some 5, .bin .sub (.tmp 3) (.tmp 4), none⟩, ⟨some 6, .bin .eql (.tmp 5) (.const (.flt .f32 (some 0))), none⟩, ⟨some 2, .move (.tmp 6), none⟩]) (.ret))⟩
theorem h_spec_l01Finite : cFun Try.prog 92 = some c_spec_l01Finite := by kernel_rfl




def c_impl_isFinite : AFun := ⟨16, [.tmp 2], .seq (.run [⟨some 2, .move (.const (.bool false)), none⟩]) (.seq (.seq (.run [⟨some 5, .move (.tmp 0), none⟩, ⟨some 6, .len (.tmp 5), none⟩, ⟨some 7, .move (.const (.int .i64 0)), none⟩]) (.block 0 (.loop (.seq (.run [⟨some 8, .bin .lss (.tmp 7) (.tmp 6), none⟩]) (.seq (.cond (.tmp 8) (.skip) (.exit 0)) (.seq (.block 1 (.seq (.run [⟨some 9, .iaSl 1 (.tmp 5) (.tmp 7), none⟩, ⟨some 10, .load false 1 (.tmp 9), none⟩, ⟨some 4, .move (.tmp 10), none⟩]) (.seq (.run [⟨some 11, .move (.tmp 4), none⟩, ⟨some 12, .move (.tmp 4), none⟩, ⟨some 13, .bin .sub (.tmp 11) (.tmp 12), none⟩, ⟨some 14, .bin .neq (.tmp 13) (.const (.flt .f32 (some 0))), none⟩]) (.cond (.tmp 14) (.seq (.run [⟨some 2, .move (.const (.bool false)), none⟩]) (.ret)) (.skip))))) (.run [⟨some 15, .bin .add (.tmp 7) (.const (.int .i64 1)), none⟩, ⟨some 7, .move (.tmp 15), none⟩]))))))) (.seq (.run [⟨some 2, .move (.const (.bool true)), none⟩]) (.ret)))⟩
theorem h_impl_isFinite : cFun Try.prog 98 = some c_impl_isFinite := by kernel_rfl

def c_math_floor : AFun := ⟨38, [.tmp 2], .seq (.run [⟨some 2, .move (.const (.flt .f64 (some 0))), none⟩]) (.seq (.seq (.run [⟨some 7, .move (.tmp 0), none⟩, ⟨some 8, .bin .eql (.tmp 7) (.const (.flt .f64 (some 0))), none⟩, ⟨some 9, .move (.tmp 8), none⟩, ⟨some 10, .move (.tmp 0), some (9, false)⟩, ⟨some 11, .call 114 [.tmp 10], some (9, false)⟩, ⟨some 12, .pick (.tmp 9) (.const (.bool true)) (.tmp 11), none⟩, ⟨some 13, .move (.tmp 12), none⟩, ⟨some 14, .move (.tmp 0), some (13, false)⟩, ⟨some 15, .call 115 [.tmp 14, .const (.int .i64 0)], some (13, false)⟩, ⟨some 16, .pick (.tmp 13) (.const (.bool true)) (.tmp 15), none⟩]) (.cond (.tmp 16) (.seq (.run [⟨some 17, .move (.tmp 0), none⟩, ⟨some 2, .move (.tmp 17), none⟩]) (.ret)) (.skip))) (.seq (.seq (.run [⟨some 18, .move (.tmp 0), none⟩, ⟨some 19, .bin .lss (.tmp 18) (.const (.flt .f64 (some 0))), none⟩]) (.cond (.tmp 19) (.seq (.run [⟨some 21, .move (.tmp 0), none⟩, ⟨some 22, .un .neg (.tmp 21), none⟩, ⟨some 23, .call 116 [.tmp 22], none⟩, ⟨some 20, .move (.tmp 23), none⟩, ⟨some 24, .extract 0 (.tmp 20), none⟩, ⟨some 25, .extract 1 (.tmp 20), none⟩, ⟨some 3, .move (.tmp 24), none⟩, ⟨some 4, .move (.tmp 25), none⟩]) (.seq (.seq (.run [⟨some 26, .move (.tmp 4), none⟩, ⟨some 27, .bin .neq (.tmp 26) (.const (.flt .f64 (some 0))), none⟩]) (.cond (.tmp 27) (.run [⟨some 28, .move (.tmp 3), none⟩, ⟨some 29, .bin .add (.tmp 28) (.const (.flt .f64 (some 4607182418800017408))), none⟩, ⟨some 3, .move (.tmp 29), none⟩]) (.skip))) (.seq (.run [⟨some 30, .move (.tmp 3), none⟩, ⟨some 31, .un .neg (.tmp 30), none⟩, ⟨some 2, .move (.tmp 31), none⟩]) (.ret)))) (.skip))) (.seq (.run [⟨some 33, .move (.tmp 0), none⟩, ⟨some 34, .call 116 [.tmp 33], none⟩, ⟨some 32, .move (.tmp 34), none⟩, ⟨some 35, .extract 0 (.tmp 32), none⟩, ⟨some 36, .extract 1 (.tmp 32), none⟩, ⟨some 5, .move (.tmp 35), none⟩, ⟨some 6, .move (.tmp 36), none⟩]) (.seq (.run [⟨some 37, .move (.tmp 5), none⟩, ⟨some 2, .move (.tmp 37), none⟩]) (.ret)))))⟩
theorem h_math_floor : cFun Try.prog 100 = some c_math_floor := by kernel_rfl













def c_math_IsNaN : AFun := ⟨6, [.tmp 2], .seq (.run [⟨some 2, .move (.const (.bool false)), none⟩]) (.seq (.run [⟨some 3, .move (.tmp 0), none⟩, ⟨some 4, .move (.tmp 0), none⟩, ⟨some 5, .bin .neq (.tmp 3) (.tmp 4), none⟩, ⟨some 2, .move (.tmp 5), none⟩]) (.ret))⟩
theorem h_math_IsNaN : cFun Try.prog 114 = some c_math_IsNaN := by kernel_rfl

def c_math_IsInf : AFun := ⟨15, [.tmp 4], .seq (.run [⟨some 4, .move (.const (.bool false)), none⟩]) (.seq (.seq (.run [⟨some 5, .move (.tmp 1), none⟩, ⟨some 6, .bin .eql (.tmp 5) (.const (.int .i64 0)), none⟩]) (.cond (.tmp 6) (.run [⟨some 7, .move (.tmp 0), none⟩, ⟨some 8, .call 64 [.tmp 7], none⟩, ⟨some 0, .move (.tmp 8), none⟩]) (.seq (.run [⟨some 9, .move (.tmp 1), none⟩, ⟨some 10, .bin .lss (.tmp 9) (.const (.int .i64 0)), none⟩]) (.cond (.tmp 10) (.run [⟨some 11, .move (.tmp 0), none⟩, ⟨some 12, .un .neg (.tmp 11), none⟩, ⟨some 0, .move (.tmp 12), none⟩]) (.skip))))) (.seq (.run [⟨some 13, .move (.tmp 0), none⟩, ⟨some 14, .bin .gtr (.tmp 13) (.const (.flt .f64 (some 9218868437227405311))), none⟩, ⟨some 4, .move (.tmp 14), none⟩]) (.ret)))⟩
theorem h_math_IsInf : cFun Try.prog 115 = some c_math_IsInf := by kernel_rfl

def c_math_Modf : AFun := ⟨11, [.tmp 2, .tmp 3], .seq (.run [⟨some 2, .move (.const (.flt .f64 (some 0))), none⟩, ⟨some 3, .move (.const (.flt .f64 (some 0))), none⟩]) (.seq (.run [⟨some 4, .move (.tmp 0), none⟩, ⟨some 5, .call 122 [.tmp 4], none⟩, ⟨some 2, .move (.tmp 5), none⟩]) (.seq (.run [⟨some 6, .move (.tmp 0), none⟩, ⟨some 7, .move (.tmp 2), none⟩, ⟨some 8, .bin .sub (.tmp 6) (.tmp 7), none⟩, ⟨some 9, .move (.tmp 0), none⟩, ⟨some 10, .call 123 [.tmp 8, .tmp 9], none⟩, ⟨some 3, .move (.tmp 10), none⟩]) (.ret)))⟩
theorem h_math_Modf : cFun Try.prog 116 = some c_math_Modf := by kernel_rfl






def c_math_Trunc : AFun := ⟨7, [.tmp 2], .seq (.run [⟨some 2, .move (.const (.flt .f64 (some 0))), none⟩]) (.seq (.cond (.const (.bool true)) (.seq (.run [⟨some 3, .move (.tmp 0), none⟩, ⟨some 4, .call 126 [.tmp 3], none⟩, ⟨some 2, .move (.tmp 4), none⟩]) (.ret)) (.skip)) (.seq (.run [⟨some 5, .move (.tmp 0), none⟩, ⟨some 6, .call 127 [.tmp 5], none⟩, ⟨some 2, .move (.tmp 6), none⟩]) (.ret)))⟩
theorem h_math_Trunc : cFun Try.prog 122 = some c_math_Trunc := by kernel_rfl

def c_math_Copysign : AFun := ⟨13, [.tmp 4], .seq (.run [⟨some 4, .move (.const (.flt .f64 (some 0))), none⟩]) (.seq (.run [⟨some 5, .move (.tmp 0), none⟩, ⟨some 6, .call 97 [.tmp 5], none⟩, ⟨some 7, .bin .andNot (.tmp 6) (.const (.int .u64 9223372036854775808)), none⟩, ⟨some 8, .move (.tmp 1), none⟩, ⟨some 9, .call 97 [.tmp 8], none⟩, ⟨some 10, .bin .and (.tmp 9) (.const (.int .u64 9223372036854775808)), none⟩, ⟨some 11, .bin .or (.tmp 7) (.tmp 10), none⟩, ⟨some 12, .call 101 [.tmp 11], none⟩, ⟨some 4, .move (.tmp 12), none⟩]) (.ret))⟩
theorem h_math_Copysign : cFun Try.prog 123 = some c_math_Copysign := by kernel_rfl


def c_math_trunc : AFun := ⟨26, [.tmp 2], .seq (.run [⟨some 2, .move (.const (.flt .f64 (some 0))), none⟩]) (.seq (.seq (.run [⟨some 5, .move (.tmp 0), none⟩, ⟨some 6, .call 64 [.tmp 5], none⟩, ⟨some 7, .bin .lss (.tmp 6) (.const (.flt .f64 (some 4607182418800017408))), none⟩]) (.cond (.tmp 7) (.seq (.run [⟨some 8, .move (.tmp 0), none⟩, ⟨some 9, .call 123 [.const (.flt .f64 (some 0)), .tmp 8], none⟩, ⟨some 2, .move (.tmp 9), none⟩]) (.ret)) (.skip))) (.seq (.run [⟨some 10, .move (.tmp 0), none⟩, ⟨some 11, .call 97 [.tmp 10], none⟩, ⟨some 3, .move (.tmp 11), none⟩]) (.seq (.run [⟨some 12, .move (.tmp 3), none⟩, ⟨some 13, .bin .shr (.tmp 12) (.const (.int .u64 52)), none⟩, ⟨some 14, .bin .and (.tmp 13) (.const (.int .u64 2047)), none⟩, ⟨some 15, .bin .sub (.tmp 14) (.const (.int .u64 1023)), none⟩, ⟨some 4, .move (.tmp 15), none⟩]) (.seq (.seq (.run [⟨some 16, .move (.tmp 4), none⟩, ⟨some 17, .bin .lss (.tmp 16) (.const (.int .u64 52)), none⟩]) (.cond (.tmp 17) (.run [⟨some 18, .move (.tmp 3), none⟩, ⟨some 19, .move (.tmp 4), none⟩, ⟨some 20, .bin .sub (.const (.int .u64 52)) (.tmp 19), none⟩, ⟨some 21, .bin .shl (.const (.int .u64 1)) (.tmp 20), none⟩, ⟨some 22, .bin .sub (.tmp 21) (.const (.int .u64 1)), none⟩, ⟨some 23, .bin .andNot (.tmp 18) (.tmp 22), none⟩, ⟨some 3, .move (.tmp 23), none⟩]) (.skip))) (.seq (.run [⟨some 24, .move (.tmp 3), none⟩, ⟨some 25, .call 101 [.tmp 24], none⟩, ⟨some 2, .move (.tmp 25), none⟩]) (.ret))))))⟩
theorem h_math_trunc : cFun Try.prog 127 = some c_math_trunc := by kernel_rfl

def tb : List (Nat × AFun) := [(5, c_laws_FnExactCellOf), (21, c_spec_CellOf), (22, c_laws_toVec), (23, c_impl_CellOf), (24, c_laws_eqPlace), (60, c_spec_l05Cell), (61, c_impl_isSide), (62, c_impl_IsFiniteVec), (63, c_math_Floor), (64, c_math_Abs), (65, c_spec_l05Side), (83, c_spec_l01Vec), (92, c_spec_l01Finite), (98, c_impl_isFinite), (100, c_math_floor), (114, c_math_IsNaN), (115, c_math_IsInf), (116, c_math_Modf), (122, c_math_Trunc), (123, c_math_Copysign), (127, c_math_trunc)]

theorem tb_ok : TbOk Try.prog tb := (.cons h_laws_FnExactCellOf (.cons h_spec_CellOf (.cons h_laws_toVec (.cons h_impl_CellOf (.cons h_laws_eqPlace (.cons h_spec_l05Cell (.cons h_impl_isSide (.cons h_impl_IsFiniteVec (.cons h_math_Floor (.cons h_math_Abs (.cons h_spec_l05Side (.cons h_spec_l01Vec (.cons h_spec_l01Finite (.cons h_impl_isFinite (.cons h_math_floor (.cons h_math_IsNaN (.cons h_math_IsInf (.cons h_math_Modf (.cons h_math_Trunc (.cons h_math_Copysign (.cons h_math_trunc .nil)))))))))))))))))))))

end Go.Proofs.Ytgjhjemmddojfaa
