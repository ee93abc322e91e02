import Derived.Test.YtgjhmdnbpnpkaaaDoorUxMem
import Derived.Test.YtgjhmdnbpnpkaaaDoorWordPure2
import Derived.Test.YtgjhmdnbpnpkaaaDoorRows
import Derived.Test.YtgjhmdnbpnpkaaaDoorWtW6
set_option linter.unusedSimpArgs false
set_option linter.unusedVariables false
namespace Go.Proofs.W
open Go Go.Ux Go.Ux.Word Go.Proofs


theorem of_row1 (w : World) : CallsR Tryd.prog 27 #[.int .u8 1] w (fun v w' => v = .agg #[.func (.func 39) #[] #[], .bool true, .bool true, .int .i64 0, .bool true] ∧ Ext w w') := of_spec 1 w (by omega)

theorem of_row2 (w : World) : CallsR Tryd.prog 27 #[.int .u8 2] w (fun v w' => v = .agg #[.func (.func 40) #[] #[], .bool false, .bool false, .int .i64 0, .bool true] ∧ Ext w w') := of_spec 2 w (by omega)

theorem of_row3 (w : World) : CallsR Tryd.prog 27 #[.int .u8 3] w (fun v w' => v = .agg #[.func (.func 41) #[] #[], .bool true, .bool true, .int .i64 1, .bool true] ∧ Ext w w') := of_spec 3 w (by omega)

theorem of_row4 (w : World) : CallsR Tryd.prog 27 #[.int .u8 4] w (fun v w' => v = .agg #[.func (.func 42) #[] #[], .bool false, .bool false, .int .i64 1, .bool true] ∧ Ext w w') := of_spec 4 w (by omega)

theorem of_row5 (w : World) : CallsR Tryd.prog 27 #[.int .u8 5] w (fun v w' => v = .agg #[.func (.func 43) #[] #[], .bool false, .bool false, .int .i64 0, .bool true] ∧ Ext w w') := of_spec 5 w (by omega)

theorem of_row6 (w : World) : CallsR Tryd.prog 27 #[.int .u8 6] w (fun v w' => v = .agg #[.func (.func 44) #[] #[], .bool false, .bool false, .int .i64 1, .bool true] ∧ Ext w w') := of_spec 6 w (by omega)

theorem of_row7 (w : World) : CallsR Tryd.prog 27 #[.int .u8 7] w (fun v w' => v = .agg #[.func (.func 45) #[] #[], .bool false, .bool false, .int .i64 0, .bool true] ∧ Ext w w') := of_spec 7 w (by omega)

theorem of_row8 (w : World) : CallsR Tryd.prog 27 #[.int .u8 8] w (fun v w' => v = .agg #[.func (.func 46) #[] #[], .bool true, .bool true, .int .i64 (-1), .bool true] ∧ Ext w w') := of_spec 8 w (by omega)

theorem of_row9 (w : World) : CallsR Tryd.prog 27 #[.int .u8 9] w (fun v w' => v = .agg #[.func (.func 47) #[] #[], .bool true, .bool true, .int .i64 0, .bool true] ∧ Ext w w') := of_spec 9 w (by omega)

theorem of_row10 (w : World) : CallsR Tryd.prog 27 #[.int .u8 10] w (fun v w' => v = .agg #[.func (.func 48) #[] #[], .bool true, .bool true, .int .i64 0, .bool true] ∧ Ext w w') := of_spec 10 w (by omega)

theorem of_row11 (w : World) : CallsR Tryd.prog 27 #[.int .u8 11] w (fun v w' => v = .agg #[.func (.func 49) #[] #[], .bool false, .bool false, .int .i64 0, .bool true] ∧ Ext w w') := of_spec 11 w (by omega)

theorem of_row12 (w : World) : CallsR Tryd.prog 27 #[.int .u8 12] w (fun v w' => v = .agg #[.func (.func 50) #[] #[], .bool false, .bool false, .int .i64 0, .bool true] ∧ Ext w w') := of_spec 12 w (by omega)

theorem of_row13 (w : World) : CallsR Tryd.prog 27 #[.int .u8 13] w (fun v w' => v = .agg #[.func (.func 51) #[] #[], .bool false, .bool false, .int .i64 0, .bool true] ∧ Ext w w') := of_spec 13 w (by omega)

theorem of_row14 (w : World) : CallsR Tryd.prog 27 #[.int .u8 14] w (fun v w' => v = .agg #[.func (.func 52) #[] #[], .bool false, .bool false, .int .i64 0, .bool false] ∧ Ext w w') := of_spec 14 w (by omega)

theorem of_row15 (w : World) : CallsR Tryd.prog 27 #[.int .u8 15] w (fun v w' => v = .agg #[.func (.func 54) #[] #[], .bool false, .bool false, .int .i64 0, .bool false] ∧ Ext w w') := of_spec 15 w (by omega)

theorem of_row16 (w : World) : CallsR Tryd.prog 27 #[.int .u8 16] w (fun v w' => v = .agg #[.func (.func 55) #[] #[], .bool true, .bool false, .int .i64 0, .bool false] ∧ Ext w w') := of_spec 16 w (by omega)

theorem of_none (n : Nat) (w : World) (hn : n = 0 ∨ 16 < n) (hn2 : n < 256) : CallsR Tryd.prog 27 #[.int .u8 ((n : Nat) : Int)] w (fun v w' => v = .agg #[.nilFunc, .bool false, .bool false, .int .i64 0, .bool false] ∧ Ext w w') := (of_spec n w hn2).mono fun v w' h => ⟨by rw [h.1, rowNone n hn], h.2⟩
end Go.Proofs.W
