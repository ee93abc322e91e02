import Derived.Test.YtgjhmdnbpnpkaaaDoorUxMem
import Derived.Test.YtgjhmdnbpnpkaaaDoorWordHigh
import Derived.Test.YtgjhmdnbpnpkaaaDoorRows
import Derived.Test.YtgjhmdnbpnpkaaaDoorWtW9
set_option linter.unusedSimpArgs false
set_option linter.unusedVariables false
namespace Go.Proofs.W
open Go Go.Ux Go.Ux.Word Go.Proofs
theorem ar56 : arrT Tryd.prog 56 = some (64, 5) := by kernel_rfl
theorem sz5 : sizeT Tryd.prog 5 = some 1 := by kernel_rfl
theorem ag5 : isAggT Tryd.prog 5 = some false := by kernel_rfl

theorem ones_spec (x : BitVec 64) (w : World) : CallsR Tryd.prog 36 #[U64 (x)] w (fun v w' => v = I64 (pop x) ∧ w = w') := by
  refine callsR_of Tryd.func36 rfl rfl rfl ?_
  refine WC.seq ?_
  refine WC.region ?_
  refine WL.assign (v := IN (0)) rfl rfl ?_
  refine WL.nil ?_
  refine WC.seq ?_
  refine WC.region ?_
  refine WL.move (v := U64 (x)) rfl rfl ?_
  refine WL.bin rfl (vy := .int .u64 ((1 : Nat) : Int)) rfl rfl BinR.shrU64 ?_
  refine WL.bin rfl (vy := U64 (6148914691236517205#64)) rfl rfl (BinR.andU64) ?_
  refine WL.move (v := U64 (x)) rfl rfl ?_
  refine WL.bin rfl (vy := U64 (6148914691236517205#64)) rfl rfl (BinR.andU64) ?_
  refine WL.bin (v := U64 (pop1 x)) rfl rfl rfl (BinR.addU64) ?_
  refine WL.assign (v := U64 ((pop1 x))) rfl rfl ?_
  refine WL.nil ?_
  refine WC.seq ?_
  refine WC.region ?_
  refine WL.move (v := U64 ((pop1 x))) rfl rfl ?_
  refine WL.bin rfl (vy := .int .u64 ((2 : Nat) : Int)) rfl rfl BinR.shrU64 ?_
  refine WL.bin rfl (vy := U64 (3689348814741910323#64)) rfl rfl (BinR.andU64) ?_
  refine WL.move (v := U64 ((pop1 x))) rfl rfl ?_
  refine WL.bin rfl (vy := U64 (3689348814741910323#64)) rfl rfl (BinR.andU64) ?_
  refine WL.bin (v := U64 (pop2 (pop1 x))) rfl rfl rfl (BinR.addU64) ?_
  refine WL.assign (v := U64 ((pop2 (pop1 x)))) rfl rfl ?_
  refine WL.nil ?_
  refine WC.seq ?_
  refine WC.region ?_
  refine WL.move (v := U64 ((pop2 (pop1 x)))) rfl rfl ?_
  refine WL.bin rfl (vy := .int .u64 ((4 : Nat) : Int)) rfl rfl BinR.shrU64 ?_
  refine WL.move (v := U64 ((pop2 (pop1 x)))) rfl rfl ?_
  refine WL.bin rfl rfl rfl (BinR.addU64) ?_
  refine WL.bin (v := U64 (pop3 (pop2 (pop1 x)))) rfl (vy := U64 m2) rfl rfl (BinR.andU64) ?_
  refine WL.assign (v := U64 ((pop3 (pop2 (pop1 x))))) rfl rfl ?_
  refine WL.nil ?_
  refine WC.seq ?_
  refine WC.region ?_
  refine WL.move (v := U64 ((pop3 (pop2 (pop1 x))))) rfl rfl ?_
  refine WL.move (v := U64 ((pop3 (pop2 (pop1 x))))) rfl rfl ?_
  refine WL.bin rfl (vy := .int .u64 ((8 : Nat) : Int)) rfl rfl BinR.shrU64 ?_
  refine WL.bin rfl rfl rfl (BinR.addU64) ?_
  refine WL.assign (v := U64 (((pop3 (pop2 (pop1 x))) + ((pop3 (pop2 (pop1 x))) >>> (8))))) rfl rfl ?_
  refine WL.nil ?_
  refine WC.seq ?_
  refine WC.region ?_
  refine WL.move (v := U64 (((pop3 (pop2 (pop1 x))) + ((pop3 (pop2 (pop1 x))) >>> (8))))) rfl rfl ?_
  refine WL.move (v := U64 (((pop3 (pop2 (pop1 x))) + ((pop3 (pop2 (pop1 x))) >>> (8))))) rfl rfl ?_
  refine WL.bin rfl (vy := .int .u64 ((16 : Nat) : Int)) rfl rfl BinR.shrU64 ?_
  refine WL.bin rfl rfl rfl (BinR.addU64) ?_
  refine WL.assign (v := U64 ((((pop3 (pop2 (pop1 x))) + ((pop3 (pop2 (pop1 x))) >>> (8))) + (((pop3 (pop2 (pop1 x))) + ((pop3 (pop2 (pop1 x))) >>> (8))) >>> (16))))) rfl rfl ?_
  refine WL.nil ?_
  refine WC.seq ?_
  refine WC.region ?_
  refine WL.move (v := U64 ((((pop3 (pop2 (pop1 x))) + ((pop3 (pop2 (pop1 x))) >>> (8))) + (((pop3 (pop2 (pop1 x))) + ((pop3 (pop2 (pop1 x))) >>> (8))) >>> (16))))) rfl rfl ?_
  refine WL.move (v := U64 ((((pop3 (pop2 (pop1 x))) + ((pop3 (pop2 (pop1 x))) >>> (8))) + (((pop3 (pop2 (pop1 x))) + ((pop3 (pop2 (pop1 x))) >>> (8))) >>> (16))))) rfl rfl ?_
  refine WL.bin rfl (vy := .int .u64 ((32 : Nat) : Int)) rfl rfl BinR.shrU64 ?_
  refine WL.bin rfl rfl rfl (BinR.addU64) ?_
  refine WL.assign (v := U64 (((((pop3 (pop2 (pop1 x))) + ((pop3 (pop2 (pop1 x))) >>> (8))) + (((pop3 (pop2 (pop1 x))) + ((pop3 (pop2 (pop1 x))) >>> (8))) >>> (16))) + ((((pop3 (pop2 (pop1 x))) + ((pop3 (pop2 (pop1 x))) >>> (8))) + (((pop3 (pop2 (pop1 x))) + ((pop3 (pop2 (pop1 x))) >>> (8))) >>> (16))) >>> (32))))) rfl rfl ?_
  refine WL.nil ?_
  refine WC.seq ?_
  refine WC.region ?_
  refine WL.move (v := U64 (((((pop3 (pop2 (pop1 x))) + ((pop3 (pop2 (pop1 x))) >>> (8))) + (((pop3 (pop2 (pop1 x))) + ((pop3 (pop2 (pop1 x))) >>> (8))) >>> (16))) + ((((pop3 (pop2 (pop1 x))) + ((pop3 (pop2 (pop1 x))) >>> (8))) + (((pop3 (pop2 (pop1 x))) + ((pop3 (pop2 (pop1 x))) >>> (8))) >>> (16))) >>> (32))))) rfl rfl ?_
  refine WL.conv (v := I64 (pop3 (pop2 (pop1 x)) + pop3 (pop2 (pop1 x)) >>> 8 + (pop3 (pop2 (pop1 x)) + pop3 (pop2 (pop1 x)) >>> 8) >>> 16 + (pop3 (pop2 (pop1 x)) + pop3 (pop2 (pop1 x)) >>> 8 + (pop3 (pop2 (pop1 x)) + pop3 (pop2 (pop1 x)) >>> 8) >>> 16) >>> 32)) rfl rfl (ConvR.u64i64 Tryd.underlying43 Tryd.underlying3) ?_
  refine WL.bin rfl (vy := I64 (127#64)) rfl rfl (BinR.and64) ?_
  refine WL.assign (v := I64 (((pop3 (pop2 (pop1 x)) + pop3 (pop2 (pop1 x)) >>> 8 + (pop3 (pop2 (pop1 x)) + pop3 (pop2 (pop1 x)) >>> 8) >>> 16 + (pop3 (pop2 (pop1 x)) + pop3 (pop2 (pop1 x)) >>> 8 + (pop3 (pop2 (pop1 x)) + pop3 (pop2 (pop1 x)) >>> 8) >>> 16) >>> 32) &&& 127#64))) rfl rfl ?_
  refine WL.nil ?_
  refine WC.ret ?_
  exact ⟨_, Res.one (v := I64 (((pop3 (pop2 (pop1 x)) + pop3 (pop2 (pop1 x)) >>> 8 + (pop3 (pop2 (pop1 x)) + pop3 (pop2 (pop1 x)) >>> 8) >>> 16 + (pop3 (pop2 (pop1 x)) + pop3 (pop2 (pop1 x)) >>> 8 + (pop3 (pop2 (pop1 x)) + pop3 (pop2 (pop1 x)) >>> 8) >>> 16) >>> 32) &&& 127#64))) rfl rfl, rfl, rfl⟩

theorem mul64_spec (x y : BitVec 64) (w : World) : CallsR Tryd.prog 38 #[U64 (x), U64 (y)] w (fun v w' => v = .tuple #[U64 (highU x y), U64 (x * y)] ∧ w = w') := by
  refine callsR_of Tryd.func38 rfl rfl rfl ?_
  refine WC.seq ?_
  refine WC.region ?_
  refine WL.assign (v := U64 (0#64)) rfl rfl ?_
  refine WL.assign (v := U64 (0#64)) rfl rfl ?_
  refine WL.nil ?_
  refine WC.seq ?_
  refine WC.region ?_
  refine WL.move (v := U64 (x)) rfl rfl ?_
  refine WL.bin rfl (vy := U64 (4294967295#64)) rfl rfl (BinR.andU64) ?_
  refine WL.assign (v := U64 ((x &&& 4294967295#64))) rfl rfl ?_
  refine WL.nil ?_
  refine WC.seq ?_
  refine WC.region ?_
  refine WL.move (v := U64 (x)) rfl rfl ?_
  refine WL.bin rfl (vy := .int .u64 ((32 : Nat) : Int)) rfl rfl BinR.shrU64 ?_
  refine WL.assign (v := U64 ((x >>> (32)))) rfl rfl ?_
  refine WL.nil ?_
  refine WC.seq ?_
  refine WC.region ?_
  refine WL.move (v := U64 (y)) rfl rfl ?_
  refine WL.bin rfl (vy := U64 (4294967295#64)) rfl rfl (BinR.andU64) ?_
  refine WL.assign (v := U64 ((y &&& 4294967295#64))) rfl rfl ?_
  refine WL.nil ?_
  refine WC.seq ?_
  refine WC.region ?_
  refine WL.move (v := U64 (y)) rfl rfl ?_
  refine WL.bin rfl (vy := .int .u64 ((32 : Nat) : Int)) rfl rfl BinR.shrU64 ?_
  refine WL.assign (v := U64 ((y >>> (32)))) rfl rfl ?_
  refine WL.nil ?_
  refine WC.seq ?_
  refine WC.region ?_
  refine WL.move (v := U64 ((x &&& 4294967295#64))) rfl rfl ?_
  refine WL.move (v := U64 ((y &&& 4294967295#64))) rfl rfl ?_
  refine WL.bin rfl rfl rfl (BinR.mulU64) ?_
  refine WL.assign (v := U64 (((x &&& 4294967295#64) * (y &&& 4294967295#64)))) rfl rfl ?_
  refine WL.nil ?_
  refine WC.seq ?_
  refine WC.region ?_
  refine WL.move (v := U64 ((x >>> (32)))) rfl rfl ?_
  refine WL.move (v := U64 ((y &&& 4294967295#64))) rfl rfl ?_
  refine WL.bin rfl rfl rfl (BinR.mulU64) ?_
  refine WL.move (v := U64 (((x &&& 4294967295#64) * (y &&& 4294967295#64)))) rfl rfl ?_
  refine WL.bin rfl (vy := .int .u64 ((32 : Nat) : Int)) rfl rfl BinR.shrU64 ?_
  refine WL.bin rfl rfl rfl (BinR.addU64) ?_
  refine WL.assign (v := U64 ((((x >>> (32)) * (y &&& 4294967295#64)) + (((x &&& 4294967295#64) * (y &&& 4294967295#64)) >>> (32))))) rfl rfl ?_
  refine WL.nil ?_
  refine WC.seq ?_
  refine WC.region ?_
  refine WL.move (v := U64 ((((x >>> (32)) * (y &&& 4294967295#64)) + (((x &&& 4294967295#64) * (y &&& 4294967295#64)) >>> (32))))) rfl rfl ?_
  refine WL.bin rfl (vy := U64 (4294967295#64)) rfl rfl (BinR.andU64) ?_
  refine WL.assign (v := U64 (((((x >>> (32)) * (y &&& 4294967295#64)) + (((x &&& 4294967295#64) * (y &&& 4294967295#64)) >>> (32))) &&& 4294967295#64))) rfl rfl ?_
  refine WL.nil ?_
  refine WC.seq ?_
  refine WC.region ?_
  refine WL.move (v := U64 ((((x >>> (32)) * (y &&& 4294967295#64)) + (((x &&& 4294967295#64) * (y &&& 4294967295#64)) >>> (32))))) rfl rfl ?_
  refine WL.bin rfl (vy := .int .u64 ((32 : Nat) : Int)) rfl rfl BinR.shrU64 ?_
  refine WL.assign (v := U64 (((((x >>> (32)) * (y &&& 4294967295#64)) + (((x &&& 4294967295#64) * (y &&& 4294967295#64)) >>> (32))) >>> (32)))) rfl rfl ?_
  refine WL.nil ?_
  refine WC.seq ?_
  refine WC.region ?_
  refine WL.move (v := U64 (((((x >>> (32)) * (y &&& 4294967295#64)) + (((x &&& 4294967295#64) * (y &&& 4294967295#64)) >>> (32))) &&& 4294967295#64))) rfl rfl ?_
  refine WL.move (v := U64 ((x &&& 4294967295#64))) rfl rfl ?_
  refine WL.move (v := U64 ((y >>> (32)))) rfl rfl ?_
  refine WL.bin rfl rfl rfl (BinR.mulU64) ?_
  refine WL.bin rfl rfl rfl (BinR.addU64) ?_
  refine WL.assign (v := U64 ((((((x >>> (32)) * (y &&& 4294967295#64)) + (((x &&& 4294967295#64) * (y &&& 4294967295#64)) >>> (32))) &&& 4294967295#64) + ((x &&& 4294967295#64) * (y >>> (32)))))) rfl rfl ?_
  refine WL.nil ?_
  refine WC.seq ?_
  refine WC.region ?_
  refine WL.move (v := U64 ((x >>> (32)))) rfl rfl ?_
  refine WL.move (v := U64 ((y >>> (32)))) rfl rfl ?_
  refine WL.bin rfl rfl rfl (BinR.mulU64) ?_
  refine WL.move (v := U64 (((((x >>> (32)) * (y &&& 4294967295#64)) + (((x &&& 4294967295#64) * (y &&& 4294967295#64)) >>> (32))) >>> (32)))) rfl rfl ?_
  refine WL.bin rfl rfl rfl (BinR.addU64) ?_
  refine WL.move (v := U64 ((((((x >>> (32)) * (y &&& 4294967295#64)) + (((x &&& 4294967295#64) * (y &&& 4294967295#64)) >>> (32))) &&& 4294967295#64) + ((x &&& 4294967295#64) * (y >>> (32)))))) rfl rfl ?_
  refine WL.bin rfl (vy := .int .u64 ((32 : Nat) : Int)) rfl rfl BinR.shrU64 ?_
  refine WL.bin rfl rfl rfl (BinR.addU64) ?_
  refine WL.assign (v := U64 (((((x >>> (32)) * (y >>> (32))) + ((((x >>> (32)) * (y &&& 4294967295#64)) + (((x &&& 4294967295#64) * (y &&& 4294967295#64)) >>> (32))) >>> (32))) + ((((((x >>> (32)) * (y &&& 4294967295#64)) + (((x &&& 4294967295#64) * (y &&& 4294967295#64)) >>> (32))) &&& 4294967295#64) + ((x &&& 4294967295#64) * (y >>> (32)))) >>> (32))))) rfl rfl ?_
  refine WL.nil ?_
  refine WC.seq ?_
  refine WC.region ?_
  refine WL.move (v := U64 (x)) rfl rfl ?_
  refine WL.move (v := U64 (y)) rfl rfl ?_
  refine WL.bin rfl rfl rfl (BinR.mulU64) ?_
  refine WL.assign (v := U64 ((x * y))) rfl rfl ?_
  refine WL.nil ?_
  refine WC.ret ?_
  exact ⟨_, Res.two (v := U64 (((((x >>> (32)) * (y >>> (32))) + ((((x >>> (32)) * (y &&& 4294967295#64)) + (((x &&& 4294967295#64) * (y &&& 4294967295#64)) >>> (32))) >>> (32))) + ((((((x >>> (32)) * (y &&& 4294967295#64)) + (((x &&& 4294967295#64) * (y &&& 4294967295#64)) >>> (32))) &&& 4294967295#64) + ((x &&& 4294967295#64) * (y >>> (32)))) >>> (32))))) (v' := U64 ((x * y))) rfl rfl rfl, by rw [← hi_eq]; rfl, rfl⟩

def tab : List Int := [0, 1, 56, 2, 57, 49, 28, 3, 61, 58, 42, 50, 38, 29, 17, 4, 62, 47, 59, 36, 45, 43, 51, 22, 53, 39, 33, 30, 24, 18, 12, 5, 63, 55, 48, 27, 60, 41, 37, 16, 46, 35, 44, 21, 52, 32, 23, 11, 54, 26, 40, 15, 34, 20, 31, 10, 25, 14, 19, 9, 13, 8, 7, 6]
/-- The package variable holds its table. -/
def Tab (w : World) : Prop := Cells w 0 0 (tab.map (Value.int .u8))
theorem Tab.ext {w w' : World} (h : Tab w) (m : Ext w w') : Tab w' := h.mod m fun x => x
def tzI (k : Nat) : BitVec 64 := (((1#64 <<< k) &&& -(1#64 <<< k)) * 285870213051353865#64) >>> 58
theorem tz_fact : ∀ k : Fin 64, (tzI k.val).toNat < 64 ∧ tab[(tzI k.val).toNat]? = some (k.val : Int) := by decide
theorem tz_cell (k : Nat) (hk : k < 64) (w : World) (h : Tab w) : w.cell? ⟨0, 0 + (tzI k).toNat, none⟩ = some (.int .u8 ((k : Nat) : Int)) := by
  have := (tz_fact ⟨k, hk⟩).2
  exact h _ _ (by rw [List.getElem?_map, this]; rfl)
theorem shl_ne (k : Nat) (hk : k < 64) : (1#64 <<< k == 0#64) = false := by
  rw [beq_eq_false_iff_ne]; intro e; have := congrArg BitVec.toNat e; rw [shl_one k hk] at this; exact absurd this (Nat.ne_of_gt (Nat.two_pow_pos k))

theorem tz_spec (k : Nat) (w : World) (hk : k < 64) (ht : Tab w) : CallsR Tryd.prog 37 #[U64 ((1#64 <<< k))] w (fun v w' => v = IN k ∧ w = w') := by
  refine callsR_of Tryd.func37 rfl rfl rfl ?_
  refine WC.seq ?_
  refine WC.region ?_
  refine WL.assign (v := IN (0)) rfl rfl ?_
  refine WL.nil ?_
  refine WC.seq ?_
  refine WC.seq ?_
  refine WC.region ?_
  refine WL.move (v := U64 ((1#64 <<< k))) rfl rfl ?_
  refine WL.bin rfl (vy := U64 (0#64)) rfl rfl (BinR.eqlU64) ?_
  refine WL.nil ?_
  refine WC.condF (congrArg Value.bool (shl_ne k hk)) ?_
  refine WC.skip ?_
  refine WC.seq ?_
  refine WC.region ?_
  refine WL.move (v := U64 ((1#64 <<< k))) rfl rfl ?_
  refine WL.move (v := U64 ((1#64 <<< k))) rfl rfl ?_
  refine WL.un rfl rfl UnR.negU64 ?_
  refine WL.bin rfl rfl rfl (BinR.andU64) ?_
  refine WL.bin rfl (vy := U64 (285870213051353865#64)) rfl rfl (BinR.mulU64) ?_
  refine WL.bin rfl (vy := .int .u64 ((58 : Nat) : Int)) rfl rfl BinR.shrU64 ?_
  refine WL.indexArr1 (i := (tzI k).toNat) ar56 sz5 rfl rfl (tz_fact ⟨k, hk⟩).1 rfl ?_
  refine WL.load1 rfl ag5 (tz_cell k hk _ ht) rfl ?_
  refine WL.conv (v := IN (k)) rfl rfl (ConvR.toI Tryd.underlying5 Tryd.underlying3 (by omega)) ?_
  refine WL.assign (v := IN (k)) rfl rfl ?_
  refine WL.nil ?_
  refine WC.ret ?_
  exact ⟨_, Res.one (v := IN (k)) rfl rfl, rfl, rfl⟩
end Go.Proofs.W
