/- Steps of the proof, packed by program: McAs McS6 UxRound McS7 McRange McSpread McSprd McW9 McS8 McA1 McA2. -/
import Derived.Test.YtlabgjcjccdjfaaGreatDoorRows
import Derived.LaidEql
import Derived.Stop.Asserts
import Derived.RowKitTokens
import Derived.RangeFuncNested
import Derived.RangeFuncLeaves
import Derived.OrdersIn
import Derived.TacticsIn
import Derived.RangeFuncBox
import Derived.RangeFuncFrom
import Derived.Shelf.Abstract
import Derived.WalkKit
import Derived.OwnWalkIn
import Derived.TacticsInMore
import Derived.LoopNIn
import Derived.LoopIn
import Derived.Test.YtlabgjcjccdjfaaGreatDoorMpackQ02
import Derived.Test.YtlabgjcjccdjfaaGreatDoorMpackQ04
set_option linter.unusedVariables false
set_option linter.unusedSimpArgs false
set_option linter.unnecessarySimpa false
set_option maxRecDepth 100000
section
namespace Go.Proofs.S
open Go Go.Ux Go.RowKit Go.Extern.Stop Go.Stop Go.Extern Go.Proofs.YtlabgjcjccdjfaaGreatDoor
open Tryz
theorem as_nil (t : Value) (w : World) :
  Calls prog 67 #[.nilIface, t] w fun e w' => e = .returned (.bool false) ∧ w' = w := by
 go_enter func67, Tryz.ntmps67
 go_wp2
 go_ret
 exact ⟨G, G⟩
theorem Tryz.valueOf27 (t : Addr) (w : World) : (ReflectliteValue.unpack (.iface 146 (.pointer (some t)))).run prog w
  = .ok (.agg #[.pointer (some ⟨6, 146, none⟩), .pointer (some ⟨w.heap.size, 0, none⟩), .int .u64 150]) (w.alloc (.cells #[.pointer (some t)] 146)) := by kernel_rfl
theorem Tryz.type27 (a : Addr) (w : World) : (ReflectliteValue.methodAny (ReflectliteValue.valueError "reflectlite.Value.Type" 0) (fun t _ _ _ => ReflectliteType.toType t) #[.agg #[.pointer (some ⟨6, 146, none⟩), .pointer (some a), .int .u64 150]]).run prog w
  = .ok (.iface 206 (.agg #[.pointer (some ⟨6, 146, none⟩)])) w := by kernel_rfl
theorem Tryz.methodKind (h : Value) (w : World) : (Go.method 346 206 (.agg #[h]) "Kind").run prog w = .ok (147, h) w := by kernel_rfl
theorem Tryz.kind27 (w : World) : ((ReflectliteType.abiMethod fun t => (fun a : Nat => Value.int IntKind.u8 (a : Int)) <$> Rtype.kind t) #[.pointer (some ⟨6, 146, none⟩)]).run prog w = .ok (.int .u8 22) w := by kernel_rfl
theorem Tryz.kind25 (w : World) : ((ReflectliteType.abiMethod fun t => (fun a : Nat => Value.int IntKind.u8 (a : Int)) <$> Rtype.kind t) #[.pointer (some ⟨6, 144, none⟩)]).run prog w = .ok (.int .u8 22) w := by kernel_rfl
theorem rlm (z : Sem Value) (f : TypeId → Addr → Nat → Nat → Sem Value) (v : Value) :
  ReflectliteValue.method z f #[v] = (do match ← ReflectliteValue.parts v with | none => z | some (t, a, fl) => f t a fl (fl % 32)) := rfl
theorem Tryz.parts27 (a : Addr) (w : World) : (ReflectliteValue.parts (.agg #[.pointer (some ⟨6, 146, none⟩), .pointer (some a), .int .u64 150])).run prog w = .ok (some (146, a, 150)) w := by kernel_rfl
theorem Tryz.isNil27 (a p : Addr) (W : World) (ha : W.cell? a = some (.pointer (some p))) :
  (ReflectliteValue.method (ReflectliteValue.valueError "reflectlite.Value.IsNil" 0) ReflectliteValue.isNil #[.agg #[.pointer (some ⟨6, 146, none⟩), .pointer (some a), .int .u64 150]]).run prog W = .ok (.bool false) W := by
 rw [rlm]
 simp only [Sem.run_bind, Tryz.parts27, Result.andThen]
 simp [ReflectliteValue.isNil, loadVar, isAgg, underlying, y146, ha, Result.andThen]
theorem Tryz.methodElem (h : Value) (w : World) : (Go.method 346 206 (.agg #[h]) "Elem").run prog w = .ok (158, .agg #[h]) w := by kernel_rfl
theorem Tryz.methodImplements (h : Value) (w : World) : (Go.method 346 206 (.agg #[h]) "Implements").run prog w = .ok (159, .agg #[h]) w := by kernel_rfl
theorem Tryz.methodAssignableTo (h : Value) (w : World) : (Go.method 346 206 (.agg #[h]) "AssignableTo").run prog w = .ok (156, .agg #[h]) w := by kernel_rfl
theorem Tryz.elem27 (w : World) : (ReflectliteType.method ReflectliteType.elem #[.agg #[.pointer (some ⟨6, 146, none⟩)]]).run prog w = .ok (.iface 206 (.agg #[.pointer (some ⟨6, 144, none⟩)])) w := by kernel_rfl
theorem Tryz.implements25 (w : World) : (ReflectliteType.relation "Implements" ReflectliteType.implements_ #[.agg #[.pointer (some ⟨6, 144, none⟩)], .iface 206 (.agg #[.pointer (some ⟨6, 83, none⟩)])]).run prog w = .ok (.bool true) w := by kernel_rfl
theorem Tryz.typeOf25 (v : Value) (w : World) : (ReflectliteType.typeOf #[.iface 144 v]).run prog w = .ok (.iface 206 (.agg #[.pointer (some ⟨6, 144, none⟩)])) w := by kernel_rfl
theorem Tryz.assignable25 (w : World) : (ReflectliteType.relation "AssignableTo" ReflectliteType.assignableTo #[.agg #[.pointer (some ⟨6, 144, none⟩)], .iface 206 (.agg #[.pointer (some ⟨6, 144, none⟩)])]).run prog w = .ok (.bool true) w := by kernel_rfl
theorem Tryz.valueOf25 (e : Addr) (w : World) : (ReflectliteValue.unpack (.iface 144 (.pointer (some e)))).run prog w
  = .ok (.agg #[.pointer (some ⟨6, 144, none⟩), .pointer (some ⟨w.heap.size, 0, none⟩), .int .u64 150]) (w.alloc (.cells #[.pointer (some e)] 144)) := by kernel_rfl
theorem Tryz.elemOf27 (w : World) : (Rtype.elem? 146).run prog w = .ok (some 144) w := by kernel_rfl
theorem Tryz.mk25 (p : Addr) (w : World) : (ReflectliteValue.mk 144 p ReflectliteValue.flagAddr).run prog w = .ok (.agg #[.pointer (some ⟨6, 144, none⟩), .pointer (some p), .int .u64 406]) w := by kernel_rfl
theorem Tryz.elemV27 (a p : Addr) (W : World) (ha : W.cell? a = some (.pointer (some p))) :
  (ReflectliteValue.method (ReflectliteValue.valueError "reflectlite.Value.Elem" 0) ReflectliteValue.elem #[.agg #[.pointer (some ⟨6, 146, none⟩), .pointer (some a), .int .u64 150]]).run prog W
   = .ok (.agg #[.pointer (some ⟨6, 144, none⟩), .pointer (some p), .int .u64 406]) W := by
 rw [rlm]
 simp only [Sem.run_bind, Tryz.parts27, Result.andThen]
 simp [ReflectliteValue.elem, loadVar, isAgg, underlying, y146, ha, Result.andThen, Tryz.elemOf27, Tryz.mk25]
theorem rls (v x : Value) : ReflectliteValue.set #[v, x] = (do
  let (some (dst, a, fl), some (src, b, _)) := (← ReflectliteValue.parts v, ← ReflectliteValue.parts x)
   | unsupported (.noEntry "extern/(internal/reflectlite.Value).Set.zeroValue")
  if fl / ReflectliteValue.flagAddr % 2 == 0 then unsupported (.noEntry "extern/(internal/reflectlite.Value).Set.unaddressable")
  let val ← loadVar src b
  if ← Rtype.directlyAssignable dst src then storeVar dst a val
  else if ← Rtype.implements dst src then
   if (← Rtype.kind src) == 20 then
    match val with
    | .nilIface => unsupported (.noEntry "extern/reflectlite: a nil value of one interface type handed on as a value of another")
    | _ => storeVar dst a val
   else storeVar dst a (.iface src val)
  else panicString ("reflectlite.Set: value of type " ++ (← Rtype.spelt src) ++ " is not assignable to type " ++ (← Rtype.spelt dst))
  pure (.tuple #[])) := rfl
theorem Tryz.parts25a (a : Addr) (w : World) : (ReflectliteValue.parts (.agg #[.pointer (some ⟨6, 144, none⟩), .pointer (some a), .int .u64 406])).run prog w = .ok (some (144, a, 406)) w := by kernel_rfl
theorem Tryz.parts25 (a : Addr) (w : World) : (ReflectliteValue.parts (.agg #[.pointer (some ⟨6, 144, none⟩), .pointer (some a), .int .u64 150])).run prog w = .ok (some (144, a, 150)) w := by kernel_rfl
theorem Tryz.direct25 (w : World) : (Rtype.directlyAssignable 144 144).run prog w = .ok true w := by kernel_rfl
theorem Tryz.set25 (ta b e : Addr) (old : Value) (W : World) (hb : W.cell? b = some (.pointer (some e))) (ht : W.cell? ta = some old) (hf : W.frozen? ta = false) :
  (ReflectliteValue.set #[.agg #[.pointer (some ⟨6, 144, none⟩), .pointer (some ta), .int .u64 406], .agg #[.pointer (some ⟨6, 144, none⟩), .pointer (some b), .int .u64 150]]).run prog W
   = .ok (.tuple #[]) (W.setCell ta (.pointer (some e))) := by
 rw [rls]
 simp only [Sem.run_bind, Tryz.parts25a, Tryz.parts25, Result.andThen]
 simp [ReflectliteValue.flagAddr, loadVar, isAgg, underlying, y144, hb, Result.andThen, Tryz.direct25, storeVar, Value.cells, storeCells, Addr.add]
 rw [run_store prog W ta _ _ (by rfl)]
 simp [ht, hf]
set_option maxHeartbeats 4000000 in
theorem as_hit (e t : Addr) (old : Value) (w : World) (hg : w.cell? ⟨3, 0, none⟩ = some (.iface 206 (.agg #[.pointer (some ⟨6, 83, none⟩)]))) (ht0 : w.cell? t = some old) (hf0 : w.frozen? t = false) :
  Calls prog 67 #[.iface 144 (.pointer (some e)), .iface 146 (.pointer (some t))] w fun ev w' => ev = .returned (.bool true) ∧ w' = ((((w.alloc (.cells #[.pointer (some t)] 146)).alloc (.cells #[.pointer (some ⟨6, 146, none⟩), .pointer (some ⟨w.heap.size, 0, none⟩), .int .u64 150] 186)).alloc (.cells #[.pointer (some ⟨6, 146, none⟩), .pointer (some ⟨w.heap.size, 0, none⟩), .int .u64 150] 186)).alloc (.cells #[.pointer (some e)] 144)).setCell t (.pointer (some e)) := by
 have h6 := @run_callFunc_extern prog 92 _ (fun args => ReflectliteValue.unpack (args.getD 0 (.tuple #[]))) func92 (by kernel_rfl) (by kernel_rfl) (by kernel_rfl) (by kernel_rfl)
 have h7 := @run_callFunc_extern prog 93 _ (ReflectliteValue.methodAny (ReflectliteValue.valueError "reflectlite.Value.Type" 0) (fun t _ _ _ => ReflectliteType.toType t)) func93 (by kernel_rfl) (by kernel_rfl) (by kernel_rfl) (by kernel_rfl)
 have h8 := @run_callFunc_extern prog 94 _ (ReflectliteValue.method (ReflectliteValue.valueError "reflectlite.Value.IsNil" 0) ReflectliteValue.isNil) func94 (by kernel_rfl) (by kernel_rfl) (by kernel_rfl) (by kernel_rfl)
 have h27 := @run_callFunc_extern prog 147 _ (ReflectliteType.abiMethod fun t => do pure (.int .u8 (← Rtype.kind t))) func147 (by kernel_rfl) (by kernel_rfl) (by kernel_rfl) (by kernel_rfl)
 have h37 := @run_callFunc_extern prog 158 _ (ReflectliteType.method ReflectliteType.elem) func158 (by kernel_rfl) (by kernel_rfl) (by kernel_rfl) (by kernel_rfl)
 have h38 := @run_callFunc_extern prog 159 _ (ReflectliteType.relation "Implements" ReflectliteType.implements_) func159 (by kernel_rfl) (by kernel_rfl) (by kernel_rfl) (by kernel_rfl)
 have h10 := @run_callFunc_extern prog 126 _ ReflectliteType.typeOf func126 (by kernel_rfl) (by kernel_rfl) (by kernel_rfl) (by kernel_rfl)
 have h35 := @run_callFunc_extern prog 156 _ (ReflectliteType.relation "AssignableTo" ReflectliteType.assignableTo) func156 (by kernel_rfl) (by kernel_rfl) (by kernel_rfl) (by kernel_rfl)
 have h11 := @run_callFunc_extern prog 127 _ (ReflectliteValue.method (ReflectliteValue.valueError "reflectlite.Value.Elem" 0) ReflectliteValue.elem) func127 (by kernel_rfl) (by kernel_rfl) (by kernel_rfl) (by kernel_rfl)
 have h12 := @run_callFunc_extern prog 128 _ ReflectliteValue.set func128 (by kernel_rfl) (by kernel_rfl) (by kernel_rfl) (by kernel_rfl)
 have tO := Tryz.typeOf25
 have mA := Tryz.methodAssignableTo
 have a25 := Tryz.assignable25
 have v25 := Tryz.valueOf25
 have f6 := Tryz.valueOf27
 have f7 := Tryz.type27
 have mK := Tryz.methodKind
 have mE := Tryz.methodElem
 have mI := Tryz.methodImplements
 have k27 := Tryz.kind27
 have k25 := Tryz.kind25
 have e27 := Tryz.elem27
 have i25 := Tryz.implements25
 have n8 := Tryz.isNil27 ⟨w.heap.size, 0, none⟩ t ((w.alloc (.cells #[.pointer (some t)] 146)).alloc (.cells #[.pointer (some ⟨6, 146, none⟩), .pointer (some ⟨w.heap.size, 0, none⟩), .int .u64 150] 186)) (by simp)
 have hlt : 3 < w.heap.size := by
  rcases Nat.lt_or_ge 3 w.heap.size with h | h0
  ·exact h
  ·simp [World.cell?, Array.getElem?_eq_none h0] at hg
 have hg2 : ((w.alloc (.cells #[.pointer (some t)] 146)).alloc (.cells #[.pointer (some ⟨6, 146, none⟩), .pointer (some ⟨w.heap.size, 0, none⟩), .int .u64 150] 186)).cell? ⟨3, 0, none⟩ = some (.iface 206 (.agg #[.pointer (some ⟨6, 83, none⟩)])) := by
  rw [World.cell?_alloc_lt _ _ ⟨3, 0, none⟩ (by simp; omega), World.cell?_alloc_lt _ _ ⟨3, 0, none⟩ hlt]; exact hg
 have htl : t.block < w.heap.size := by
  rcases Nat.lt_or_ge t.block w.heap.size with h | h
  ·exact h
  ·simp [World.cell?, Array.getElem?_eq_none h] at ht0
 have el := Tryz.elemV27 ⟨w.heap.size, 0, none⟩ t (((w.alloc (.cells #[.pointer (some t)] 146)).alloc (.cells #[.pointer (some ⟨6, 146, none⟩), .pointer (some ⟨w.heap.size, 0, none⟩), .int .u64 150] 186)).alloc (.cells #[.pointer (some ⟨6, 146, none⟩), .pointer (some ⟨w.heap.size, 0, none⟩), .int .u64 150] 186)) (by rw [World.cell?_alloc_lt _ _ ⟨w.heap.size, 0, none⟩ (by simp; omega)]; simp)
 have st := Tryz.set25 t ⟨w.heap.size + 1 + 1 + 1, 0, none⟩ e old ((((w.alloc (.cells #[.pointer (some t)] 146)).alloc (.cells #[.pointer (some ⟨6, 146, none⟩), .pointer (some ⟨w.heap.size, 0, none⟩), .int .u64 150] 186)).alloc (.cells #[.pointer (some ⟨6, 146, none⟩), .pointer (some ⟨w.heap.size, 0, none⟩), .int .u64 150] 186)).alloc (.cells #[.pointer (some e)] 144))
  (by rw [World.cell?_alloc_at _ _ _ _ (by simp)]; rfl)
  (by rw [World.cell?_alloc_lt _ _ t (by simp; omega), World.cell?_alloc_lt _ _ t (by simp; omega), World.cell?_alloc_lt _ _ t (by simp; omega), World.cell?_alloc_lt _ _ t htl]; exact ht0)
  (by rw [World.frozen?_alloc_old _ _ t (by simp; omega), World.frozen?_alloc_old _ _ t (by simp; omega), World.frozen?_alloc_old _ _ t (by simp; omega), World.frozen?_alloc_old _ _ t (Nat.ne_of_lt htl)]; exact hf0)
 go_enter func67, Tryz.ntmps67
 go_wp2
 refine wp_loop_rounds 1 ?_
 rw [rounds_succ]
 go_wp2
 go_ret
 exact ⟨G, G⟩
end Go.Proofs.S
end
section
set_option linter.unusedSimpArgs false
set_option linter.unusedVariables false
namespace Go.Proofs.S
open Go Go.Ux Go.Ux.Mach Go.Proofs
open Tryz
theorem zt144 : zeroT prog 144 = some #[.pointer none] := by kernel_rfl
theorem nif146 : notIf prog 146 = true := by kernel_rfl
theorem fo148_0 : fieldOff prog 148 0 = some 0 := by kernel_rfl
theorem as_hitR (e t : Nat) (w : World) (hg : HX w) (hb : Blk w t #[.pointer none] 144) :
  CallsR prog 67 #[.iface 144 (ptr e 0), .iface 146 (ptr t 0)] w (fun v w' => v = .bool true ∧ Mod (· = t) w w' ∧ Blk w' t #[ptr e 0] 144) := by
 refine Calls.mono (as_hit ⟨e, 0, none⟩ ⟨t, 0, none⟩ _ w hg (hb.cell (j := 0) G) (hb.frozen 0)) ?_
 rintro ev w' ⟨rfl, rfl⟩
 refine ⟨_, G, G, ?_, ?_⟩
 ·exact ((((Mod.ext (alloc_ext _ _)).trans (Mod.ext (alloc_ext _ _))).trans (Mod.ext (alloc_ext _ _))).trans (Mod.ext (alloc_ext _ _))).trans (setCell_mod _ t 0 _)
 ·exact setCell_blk ((((hb.ext (alloc_ext _ _)).ext (alloc_ext _ _)).ext (alloc_ext _ _)).ext (alloc_ext _ _)) 0 _
theorem as_nilR (t : Value) (w : World) : CallsR prog 67 #[.nilIface, t] w (fun v w' => v = .bool false ∧ Ext w w') :=
 Calls.mono (as_nil t w) fun e w' ⟨h1, h2⟩ => ⟨_, h1, rfl, by rw [h2]; exact Mod.refl _ _⟩
theorem trapped_nil (w : World) (hG : HX w) : Cx 34 #[.nilIface] w (.bool false) := by
 refine Co func34 G G ?_
 refine Sr (Ae (.bool false) (Ni (Sr (WL.alloc zt144 G ?_))))
 intro b3 w3 n3
 have E1 : Ext w w3 := n3.ext
 refine Ni (Sr (Me .nilIface (WL.mkiface (v := ptr b3 0) G nif146 G (Ca (as_nilR _ _) ?_))))
 rintro _ wA ⟨rfl, eA⟩
 have E2 := Mt E1 eA
 refine Me (.bool false) (Gx (Gx (Gx (Gx (Pf G (Ae (.bool false) (Ni (WC.ret ?_))))))))
 exact ⟨_, Ro G G, G, E2⟩
theorem trapped_some (e : Nat) (t : Bool) (w : World) (hG : HX w) (he : Blk w e #[.bool t] 148) : Cx 34 #[.iface 144 (ptr e 0)] w (.bool t) := by
 refine Co func34 G G ?_
 refine Sr (Ae (.bool false) (Ni (Sr (WL.alloc zt144 G ?_))))
 intro b3 w3 n3
 have E1 : Ext w w3 := n3.ext
 refine Ni (Sr (Me (.iface 144 (ptr e 0)) (WL.mkiface (v := ptr b3 0) G nif146 G (Ca (as_hitR e b3 _ (Mod.cell E1 hG (fun h => h)) n3.blk) ?_))))
 rintro _ wA ⟨rfl, mA, bA⟩
 have E2 : Ext w wA := Mod.own (Mod.refl _ _) n3 E1 mA
 refine Me (.bool true) (Gr (Le (bA.cell (j := 0) G) (Gr (WL.nilCheck G G (Gr (Fa G fo148_0 (Gr ?_)))))))
 have B3 := (he.ext n3.ext).mod mA (he.ne n3)
 refine Le (B3.cell (j := 0) G) (Pt G (Ae (.bool t) (Ni (WC.ret ?_))))
 exact ⟨_, Ro G G, G, E2⟩
theorem trapped_spec (v : Value) (o : Option Bool) (w : World) (hG : HX w) (h : EndV w v o) : Cx 34 #[v] w (.bool (o == some true)) := by
 cases o with
 | none => cases h; exact trapped_nil w hG
 | some t =>
  obtain ⟨e, rfl, he⟩ := h
  cases t
  ·exact trapped_some e false w hG he
  ·exact trapped_some e true w hG he
end Go.Proofs.S
end
section
namespace Go.Ux
open Go
section
variable {P : Program} {ops : Array Oper} {Q : Exit → Act → World → Prop} {l m : Nat}
theorem upon_in {o : Oper} {a : Act} {next : Act → World → Prop} (r : Result Next) (h : o.upon P a next Q r) : o.uponIn (Fence.wide.inRound l) m P a next Q r := by
 cases r with
 | ok x w' =>
  cases x <;> simp only [Oper.upon] at h <;> simp only [Oper.uponIn]
  case value => exact h
  case skip => exact h
  case defer => exact h
  case enter => exact ⟨fun h' => by simp [Fence.wide] at h', CallsIn.inRound l (callsIn_wide.2 h)⟩
  case row => exact ⟨fun h' => by simp [Fence.wide] at h', fun c cs _ => let ⟨v, w', r, s⟩ := h c cs; ⟨v, w', r, stepsIn_wide.2 s⟩⟩
 | halt x w' => cases x <;> simp only [Oper.upon] at h <;> simp only [Oper.uponIn] <;> exact h
def noDefer (o : Oper) : Bool := match o.op with
 | .defer _ => false
 | _ => true
theorem wp_in {o : Oper} (hd : noDefer o = true) {a : Act} {w : World} {next : Act → World → Prop} (h : o.wp P a w next Q) : o.wpIn (Fence.wide.inRound l) m P a w next Q := by
 refine ⟨fun _ _ => trivial, ?_⟩
 have e : o.semAt (Fence.wide.inRound l).round a.eval = execOp a.eval o := Oper.semAt_some l _ o (fun c e => by unfold noDefer at hd; rw [e] at hd; cases hd)
 rw [e]
 exact upon_in _ h
theorem list_in (hQ : ¬ LetsOut Q) : ∀ (L : List Oper), L.all noDefer = true → ∀ a w, wpList P ops Q L a w → wpListIn (Fence.wide.inRound l) m P ops Q L a w
 | [], _, _, _, h => h
 | o :: rest, hd, a, w, h => by
  rw [List.all_cons, Bool.and_eq_true] at hd
  unfold wpList at h
  unfold wpListIn
  split
  ·rename_i hw
   rw [if_pos hw] at h
   rcases h with h | ⟨_, h⟩
   ·exact wp_in hd.1 (Oper.wp_mono (fun a w h => list_in hQ rest hd.2 a w h) h)
   ·exact absurd h hQ
  ·rename_i hw
   rw [if_neg hw] at h
   exact ⟨fun _ _ => trivial, list_in hQ rest hd.2 _ _ h⟩
theorem op_in (hQ : ¬ LetsOut Q) (hd : ops.all noDefer = true) {i : Nat} {K : Act → World → Prop} {a : Act} {w : World} (h : wpOp P ops Q i K a w) : wpOpIn (Fence.wide.inRound l) m P ops Q i K a w := by
 unfold wpOp at h
 unfold wpOpIn
 cases ho : ops[i]? with
 | none => rw [ho] at h; exact h
 | some o =>
  rw [ho] at h
  simp only at h ⊢
  have hd' : noDefer o = true := by
   obtain ⟨hi, e⟩ := Array.getElem?_eq_some_iff.1 ho
   rw [← e]; exact (Array.all_eq_true.1 hd) i hi
  split
  ·rename_i hw
   rw [if_pos hw] at h
   rcases h with h | ⟨_, h⟩
   ·exact wp_in hd' h
   ·exact absurd h hQ
  ·rename_i hw
   rw [if_neg hw] at h
   exact ⟨fun _ _ => trivial, h⟩
theorem any_in (hQ : ¬ LetsOut Q) (hd : ops.all noDefer = true) : ∀ (fuel : Nat) (listed : Array Bool) (a : Act) (w : World), wpAny P .any ops Q fuel listed a w → wpAnyIn (Fence.wide.inRound l) m P .any ops Q fuel listed a w
 | 0, _, _, _, h => h
 | fuel + 1, _, _, _, h => ⟨h.1, fun i hi => op_in hQ hd (wpOp_mono (fun a' w' h' => any_in hQ hd fuel _ a' w' h') (h.2 i hi))⟩
end
section
variable {P : Program} {l m n : Nat} {f : Fr} {w : World}
def WR (P : Program) (l m : Nat) (c : Code) (n : Nat) (f : Fr) (w : World) (R : Fr → World → Prop) : Prop :=
 ∀ a : Act, a.tmps.size = n → a.defers = [] → frOf a = f → c.wpIn (Fence.wide.inRound l) m P (Post n fun e f' w' => e = .normal ∧ R f' w') a w
theorem noOut (n : Nat) (R : Fr → World → Prop) : ¬ LetsOut (Post n fun e f' w' => e = .normal ∧ R f' w') := fun ⟨_, _, _, _, h, _⟩ => nomatch h
theorem WR.region {id : Nat} {L : List Oper} {R : Fr → World → Prop} (hd : L.all noDefer = true) (h : WL P L.toArray L n f w (fun e f' w' => e = .normal ∧ R f' w')) : WR P l m (.region id L.toArray false) n f w R :=
 fun a h1 h2 h3 => wpIn_region_lit (list_in (noOut n R) L hd a w (h a h1 h2 h3))
theorem WR.drawL {id : Nat} {L : List Oper} {R : Fr → World → Prop} (S : World → Prop) (La N : Nat) (hN : L.toArray.size = N) (hm : P.follows .mixedOrders = true) (hd : L.all noDefer = true) (h : ∀ w1, Ext w w1 → WAL P L.toArray S La n N 0 f w1 (fun e f' w' => e = .normal ∧ R f' w')) : WR P l m (.region id L.toArray true) n f w R := by
 intro a h1 h2 h3
 refine wpIn_region_any hm (any_in (noOut n R) (by simpa using hd) _ _ _ _ (wpAny_of_L (S := S) (L := La) _ _ _ _ ?_))
 rw [← bits_zero]
 have := h { w with drawn := w.drawn + 1 } (Mod.drew _ _) a h1 h2 h3
 rw [← hN] at this
 exact this
theorem WR.seq {x y : Code} {R S : Fr → World → Prop} (h : WR P l m x n f w R) (k : ∀ f' w', R f' w' → WR P l m y n f' w' S) : WR P l m (.seq x y) n f w S := by
 intro a h1 h2 h3
 refine wpIn_seq (wpIn_mono (h a h1 h2 h3) ?_)
 rintro e a' w' ⟨k1, k2, rfl, k3⟩
 exact k _ _ k3 a' k1 k2 G
theorem WR.block {id : Nat} {c : Code} {R : Fr → World → Prop} (h : WR P l m c n f w R) : WR P l m (.block id c) n f w R := by
 intro a h1 h2 h3
 refine wpIn_block (wpIn_mono (h a h1 h2 h3) ?_)
 rintro e a' w' ⟨k1, k2, rfl, k3⟩
 exact ⟨k1, k2, G, k3⟩
end
def roundsIn : Code → List (Code × Code)
 | .rangeFunc _ _ a b => [(a, b)]
 | .seq a b => roundsIn a ++ roundsIn b
 | .cond _ a b => roundsIn a ++ roundsIn b
 | .block _ a => roundsIn a
 | .loop a => roundsIn a
 | _ => []
def roundBody (fn : Func) : Code := match fn.body with
 | some c => match roundsIn c with
  | (_, b) :: _ => b
  | [] => .skip
 | none => .skip
end Go.Ux
end
section
set_option linter.unusedSimpArgs false
set_option linter.unusedVariables false
namespace Go.Proofs.S
open Go Go.Ux Go.Ux.Mach Go.Proofs
open Tryz
theorem fo125_1 : fieldOff prog 125 1 = some 1 := by kernel_rfl
theorem fo125_0 : fieldOff prog 125 0 = some 0 := by kernel_rfl
theorem sz50 : sizeT prog 50 = some 1 := by kernel_rfl
theorem spread_body (l m : Nat) (f : Fr) (w : World) (b3 b5 b7 : Nat) (wd : BitVec 32) (n : BitVec 64) (p : Nat × Nat) (f3 : f 3 = ptr b3 0) (f5 : f 5 = ptr b5 0) (f7 : f 7 = ptr b7 0) (h3 : Blk w b3 #[I64 n] 2) (h5 : Blk w b5 #[U32 wd] 50) (h7 : Blk w b7 #[IN p.1, IN p.2] 125) (n35 : b3 ≠ b5) (n37 : b3 ≠ b7) (n57 : b5 ≠ b7) : WR prog l m (roundBody Tryz.f52) 34 f w (fun f' w' => Mod (fun k => k = b3 ∨ k = b5) w w' ∧ Blk w' b3 #[I64 (BitVec.sshiftRight n p.2)] 2 ∧ Blk w' b5 #[U32 (wd ||| ((n &&& (1#64 <<< p.2 - 1#64)).signExtend 32 <<< p.1))] 50) := by
 refine WR.block ?_
 refine WR.seq (R := fun f1 w1 => Mod (fun k => k = b3 ∨ k = b5) w w1 ∧ f1 3 = ptr b3 0 ∧ f1 7 = ptr b7 0 ∧ Blk w1 b3 #[I64 n] 2 ∧ Blk w1 b7 #[IN p.1, IN p.2] 125 ∧ Blk w1 b5 #[U32 (wd ||| ((n &&& (1#64 <<< p.2 - 1#64)).signExtend 32 <<< p.1))] 50) ?_ ?_
 ·refine WR.drawL (fun w_ => Ext w w_) 12 13 G mixed G ?_
  intro wd_5 ed_5
  have R1 : Ext w wd_5 := ed_5
  have E2 : Mod (fun k => k = b3 ∨ k = b5) w wd_5 := (Mod.ext ed_5)
  refine Tl 0 (U32 wd) G G (fun _ hS => Lx f5 ((h5.ext hS).cell (j := 0) G) Ok) R1 (Tl 1 (I64 n) G G (fun _ hS => Lx f3 ((h3.ext hS).cell (j := 0) G) Ok) R1 (Ti 2 (ptr b7 1) G G (Fa f7 fo125_1 Ok) R1 (Tl 3 (IN p.2) G G (fun _ hS => Le ((h7.ext hS).cell (j := 1) G) Ok) R1 (Ti 4 (I64 (1#64 <<< p.2)) G G (Bn (vx := I64 1#64) G G (BinR.shl64 (s := p.2)) Ok) R1 (Ti 5 (I64 ((1#64 <<< p.2 - 1#64))) G G (Bn (vy := I64 1#64) G G BinR.sub64 Ok) R1 (Ti 6 (I64 ((n &&& (1#64 <<< p.2 - 1#64)))) G G (Bn G G BinR.and64 Ok) R1 (Ti 7 (U32 (((n &&& (1#64 <<< p.2 - 1#64))).signExtend 32)) G G (Cv G (ConvR.i64u32 y2 y50) Ok) R1 (Ti 8 (ptr b7 0) G G (Fa f7 fo125_0 Ok) R1 (Tl 9 (IN p.1) G G (fun _ hS => Le ((h7.ext hS).cell (j := 0) G) Ok) R1 (Ti 10 (U32 ((n &&& (1#64 <<< p.2 - 1#64)).signExtend 32 <<< p.1)) G G (Bn G G (BinR.shlU32 (s := p.1)) Ok) R1 (Ti 11 (U32 ((wd ||| (n &&& (1#64 <<< p.2 - 1#64)).signExtend 32 <<< p.1))) G G (Bn G G BinR.orU32 Ok) R1 (WAL.one (i := 12) (m' := 8191) (by kernel_rfl) G G ?_))))))))))))
  have B19 := h5.ext ed_5
  refine WL.storeB (v := U32 ((wd ||| (n &&& (1#64 <<< p.2 - 1#64)).signExtend 32 <<< p.1))) f5 G G sz50 B19 (Nat.le_of_ble_eq_true G) ?_
  intro ws20 ms20 bs20 zs20
  have E20 : Mod (fun k => k = b3 ∨ k = b5) w ws20 := Mt E2 (ms20.imp (fun i _ e => .inr e))
  refine WL.behindL (by kernel_rfl) (WAL.done (by kernel_rfl) ?_)
  have B21 := (h3.ext ed_5).mod ms20 (by omega)
  have B22 := (h7.ext ed_5).mod ms20 (by omega)
  exact ⟨G, E20, f3, f7, B21, B22, bs20⟩
 ·rintro f w1 ⟨hm, g3, g7, k3, k7, k5⟩
  refine WR.region G ?_
  refine Lx g3 (k3.cell (j := 0) G) (Fa g7 fo125_1 (Le (k7.cell (j := 1) G) (Bn G G (BinR.shr64 (s := p.2)) (WL.storeB (v := I64 (BitVec.sshiftRight n p.2)) g3 G G sz2 k3 (Nat.le_of_ble_eq_true G) ?_))))
  intro ws23 ms23 bs23 zs23
  have E23 : Mod (fun k => k = b3 ∨ k = b5) w ws23 := Mt hm (ms23.imp (fun i _ e => .inl e))
  refine Ni ?_
  have B24 := k5.mod ms23 (by omega)
  exact ⟨G, E23, bs23, B24⟩
end Go.Proofs.S
end
section
namespace Go.Proofs.S
open Go Go.Ux Go.Ux.Mach Go.RowKit Go.Shelf Go.Proofs
open Tryz
attribute [local go_sem] Oper.semAt_some
def upto {α : Type} (f : Nat → α) (k : Nat) : List α := (List.range k).map f
theorem upto_succ {α : Type} (f : Nat → α) (k : Nat) : upto f (k + 1) = upto f k ++ [f k] := by simp [upto, List.range_succ]
theorem upto_length {α : Type} (f : Nat → α) (k : Nat) : (upto f k).length = k := by simp [upto]
set_option maxHeartbeats 2000000 in
theorem bytes1_in (F : Fence) (n : Nat) (h97 : F.fn 97) (hro : F.round = none) (hn : 1 ≤ n) (l Bs b off len cap : Nat) (z : Nat → BitVec 8) (hreach : len ≤ 140737488351232) {Kp : World → World → Prop} (hKr : ∀ W, Kp W W) (hKt : ∀ {A B C : World}, Kp A B → Kp B C → Kp A C) (hK1 : ∀ {A B : World} {v : Value}, Kp A B → A.cell? ⟨Bs, 0, none⟩ = some v → B.cell? ⟨Bs, 0, none⟩ = some v) (hK2 : ∀ {A B : World} {j : Nat} {v : Value}, Kp A B → A.cell? ⟨b, j, none⟩ = some v → B.cell? ⟨b, j, none⟩ = some v) (J Jx : List (Int × BitVec 8) → World → Prop)
  (hY : ∀ pre x W, J pre W → pre.length < len → YieldAt F (n - 1) prog l #[.int .i64 x.1, U8 x.2] W fun e W' =>
   (e = .returned (.bool true) ∧ J (pre ++ [x]) W' ∧ Kp W W') ∨ (e = .returned (.bool false) ∧ Jx (pre ++ [x]) W'))
  (W : World) (hBs : W.cell? ⟨Bs, 0, none⟩ = some (.slice (some ⟨b, off, none⟩) len cap)) (hc : ∀ j, j < len → W.cell? ⟨b, off + j, none⟩ = some (U8 (z j))) (h0 : J [] W) :
  CallsIn F n prog 97 #[.func (.yield l) #[] #[], .pointer (some ⟨Bs, 0, none⟩)] W fun e W' => (∃ v, e = .returned v) ∧
   ((∃ ys, ys = upto (fun k => ((len : Int) - 1 - (k : Int), z (len - 1 - k))) len ∧ J ys W') ∨ (∃ pre, (∃ k, k ≤ len ∧ pre = upto (fun k => ((len : Int) - 1 - (k : Int), z (len - 1 - k))) k) ∧ Jx pre W')) := by
 refine callsIn_of_wp func97 G h97 ?_ hro
 simp only [Tryz.ntmps97, List.size_toArray, List.length_cons, List.length_nil, Nat.reduceAdd, Nat.reduceSub, Array.replicate_succ, Array.replicate_zero, List.push_toArray, List.append_toArray, List.nil_append, List.cons_append]
 gi_wp2
 gi_loopw [3] (fun i wr => ∃ k : Nat, k ≤ len ∧ i = .int .i64 ((len : Int) - 1 - (k : Int)) ∧ J (upto (fun k => ((len : Int) - 1 - (k : Int), z (len - 1 - k))) k) wr ∧ Kp W wr)
  (fun i _ => (intOf i + 1).toNat)
 case atStart => exact ⟨0, Nat.zero_le _, by simp, h0, hKr _⟩
 case round =>
  obtain ⟨k, hk, rfl, hJs, hnx⟩ := hrel
  have hcx : k < len → wr.cell? ⟨b, off + (len - 1 - k), none⟩ = some (U8 (z (len - 1 - k))) := fun h => hK2 hnx (hc _ (by omega))
  have hBsx : wr.cell? ⟨Bs, 0, none⟩ = some (.slice (some ⟨b, off, none⟩) len cap) := hK1 hnx hBs
  by_cases hlt : k < len
  ·obtain ⟨fn, tmps, assign, body, hy, hR⟩ := hY _ ((len : Int) - 1 - (k : Int), z (len - 1 - k)) wr hJs (by rw [upto_length]; exact hlt)
   dsimp only at hy
   have hcx' := hcx hlt
   have e1 : ((len : Int) - 1 - (k : Int)) = ((len - 1 - k : Nat) : Int) := by omega
   rw [e1] at hy ⊢
   gi_wp2
   refine hR.mono ?_
   rintro e W3 (⟨rfl, hJ3, hk3⟩ | ⟨rfl, hJx3⟩)
   ·gi_wp2
    go_roundw
    case rel => exact ⟨k + 1, by omega, by simp; try omega, by rw [upto_succ]; exact hJ3, hKt hnx hk3⟩
    case measure => first | (simp [intOf]; omega) | simp [intOf]
   ·gi_wp2
    refine bodyPost_ret (results_none G _ _ _) G ?_
    exact ⟨⟨_, G⟩, .inr ⟨_, ⟨k + 1, by omega, by rw [upto_succ]⟩, hJx3⟩⟩
  ·obtain rfl : k = len := by omega
   have e1 : ((k : Int) - 1 - (k : Int)) = -1 := by omega
   rw [e1]
   gi_wp2
   go_end0
   exact ⟨⟨_, G⟩, .inl ⟨_, G, hJs⟩⟩
set_option maxHeartbeats 1000000 in
theorem bytes_in (F : Fence) (n : Nat) (h : F.fn 73) (hro : F.round = none) (a : Option Addr) (len cap : Nat) (w : World) :
  CallsIn F n prog 73 #[.slice a len cap] w fun e w' => e = .returned (.func (.func 97) #[] #[.pointer (some ⟨w.heap.size, 0, none⟩)]) ∧ w' = w.alloc (.cells #[.slice a len cap] 45) := by
 refine callsIn_of_wp func73 G h ?_ hro
 simp only [Tryz.ntmps73, List.size_toArray, List.length_cons, List.length_nil, Nat.reduceAdd, Nat.reduceSub, Array.replicate_succ, Array.replicate_zero, List.push_toArray, List.append_toArray, List.nil_append, List.cons_append]
 gi_wp2
 go_ret
 exact ⟨G, G⟩
def backB (z : Nat → BitVec 8) (len k : Nat) : List (Int × BitVec 8) := upto (fun k => ((len : Int) - 1 - (k : Int), z (len - 1 - k))) k
theorem bytes_stops (F : Fence) (n : Nat) (h97 : F.fn 97) (hro : F.round = none) (hn : 1 ≤ n) (Bs b off len cap : Nat) (z : Nat → BitVec 8) (hreach : len ≤ 140737488351232) (w : World) (hBs : Bs < w.heap.size) (hb : b < w.heap.size)
  {Kp : World → World → Prop} (hKr : ∀ W, Kp W W) (hKt : ∀ {A B C : World}, Kp A B → Kp B C → Kp A C) (hK1 : ∀ {A B : World} {v : Value}, Kp A B → A.cell? ⟨Bs, 0, none⟩ = some v → B.cell? ⟨Bs, 0, none⟩ = some v) (hK2 : ∀ {A B : World} {j : Nat} {v : Value}, Kp A B → A.cell? ⟨b, j, none⟩ = some v → B.cell? ⟨b, j, none⟩ = some v)
  (hc : w.cell? ⟨Bs, 0, none⟩ = some (.slice (some ⟨b, off, none⟩) len cap)) (hI : ∀ j, j < len → w.cell? ⟨b, off + j, none⟩ = some (U8 (z j))) :
  SeqStopsK F n prog 97 #[.pointer (some ⟨Bs, 0, none⟩)] (fun x : Int × BitVec 8 => #[Value.int .i64 x.1, U8 x.2]) Kp (fun ys => ys = backB z len len) (fun pre => ∃ k, k ≤ len ∧ pre = backB z len k) len w := fun l J Jx W hW _ _ hY h0 =>
 bytes1_in F n h97 hro hn l Bs b off len cap z hreach hKr hKt hK1 hK2 J Jx hY W ((hW.cell (p := ⟨Bs, 0, none⟩) hBs).trans hc) (fun j hj => (hW.cell (p := ⟨b, off + j, none⟩) hb).trans (hI j hj)) h0
def KeepX (bx n₁ : Nat) (A B : World) : Prop := ∀ k, k < n₁ → k ≠ bx → B.heap[k]? = A.heap[k]?
theorem KeepX.refl (bx n₁ : Nat) (A : World) : KeepX bx n₁ A A := fun _ _ _ => rfl
theorem KeepX.trans {bx n₁ : Nat} {A B C : World} (h : KeepX bx n₁ A B) (k : KeepX bx n₁ B C) : KeepX bx n₁ A C := fun i h1 h2 => (k i h1 h2).trans (h i h1 h2)
theorem KeepX.cell {bx n₁ : Nat} {A B : World} (h : KeepX bx n₁ A B) {b j : Nat} {v : Value} (h1 : b < n₁) (h2 : b ≠ bx) (hc : A.cell? ⟨b, j, none⟩ = some v) : B.cell? ⟨b, j, none⟩ = some v :=
 (World.cell?_of_block (h b h1 h2)).trans hc
theorem KeepX.set (bx n₁ : Nat) (A : World) (v : Value) : KeepX bx n₁ A (A.setCell ⟨bx, 0, none⟩ v) := fun k _ hk => Below.heap_setCell A ⟨bx, 0, none⟩ v k hk
theorem KeepX.put {bx n₁ : Nat} {w : World} (hw : n₁ ≤ w.heap.size) (W : World) (l : Nat) (o o' : Obj) (hl : w.heap.size ≤ l) (_ : W.heap[l]? = some o) (_ : o.isCells = false) (_ : o.isWalk = false) : KeepX bx n₁ W (W.putObj l o') := fun k hk _ => World.putObj_heap_other (by omega)
theorem ext_of_below {w w' : World} (h : Below w.heap.size w w') : Ext w w' := ⟨h.os, h.tape, h.output, h.size, fun k hk _ => h.block k hk⟩
end Go.Proofs.S
end
section
namespace Go.Proofs.S
open Go Go.Ux Go.Ux.Mach Go.RowKit Go.Shelf Go.Proofs
open Tryz
attribute [local go_sem] Oper.semAt_some
set_option maxHeartbeats 2000000 in
theorem bits1_in (F : Fence) (n : Nat) (h103 : F.fn 103) (hro : F.round = none) (hn : 1 ≤ n) (l Bs b off len cap : Nat) (z : Nat → Nat × Nat) (hreach : len ≤ 100) {Kp : World → World → Prop} (hKr : ∀ W, Kp W W) (hKt : ∀ {A B C : World}, Kp A B → Kp B C → Kp A C) (hK1 : ∀ {A B : World} {v : Value}, Kp A B → A.cell? ⟨Bs, 0, none⟩ = some v → B.cell? ⟨Bs, 0, none⟩ = some v) (hK2 : ∀ {A B : World} {j : Nat} {v : Value}, Kp A B → A.cell? ⟨b, j, none⟩ = some v → B.cell? ⟨b, j, none⟩ = some v) (J Jx : List (Int × (Nat × Nat)) → World → Prop)
  (hY : ∀ pre x W, J pre W → pre.length < len → YieldAt F (n - 1) prog l #[.int .i64 x.1, .agg #[IN x.2.1, IN x.2.2]] W fun e W' =>
   (e = .returned (.bool true) ∧ J (pre ++ [x]) W' ∧ Kp W W') ∨ (e = .returned (.bool false) ∧ Jx (pre ++ [x]) W'))
  (W : World) (ao : Option Addr) (hao : 0 < len → ao = some ⟨b, off, none⟩) (hBs : W.cell? ⟨Bs, 0, none⟩ = some (.slice ao len cap)) (hc : ∀ j, j < len → W.cell? ⟨b, off + j * 2, none⟩ = some (IN (z j).1) ∧ W.cell? ⟨b, off + j * 2 + 1, none⟩ = some (IN (z j).2)) (h0 : J [] W) :
  CallsIn F n prog 103 #[.func (.yield l) #[] #[], .pointer (some ⟨Bs, 0, none⟩)] W fun e W' => (∃ v, e = .returned v) ∧
   ((∃ ys, ys = upto (fun k => ((len : Int) - 1 - (k : Int), z (len - 1 - k))) len ∧ J ys W') ∨ (∃ pre, (∃ k, k ≤ len ∧ pre = upto (fun k => ((len : Int) - 1 - (k : Int), z (len - 1 - k))) k) ∧ Jx pre W')) := by
 refine callsIn_of_wp func103 G h103 ?_ hro
 simp only [Tryz.ntmps103, List.size_toArray, List.length_cons, List.length_nil, Nat.reduceAdd, Nat.reduceSub, Array.replicate_succ, Array.replicate_zero, List.push_toArray, List.append_toArray, List.nil_append, List.cons_append]
 gi_wp2
 gi_loopw [3] (fun i wr => ∃ k : Nat, k ≤ len ∧ i = .int .i64 ((len : Int) - 1 - (k : Int)) ∧ J (upto (fun k => ((len : Int) - 1 - (k : Int), z (len - 1 - k))) k) wr ∧ Kp W wr)
  (fun i _ => (intOf i + 1).toNat)
 case atStart => exact ⟨0, Nat.zero_le _, by simp, h0, hKr _⟩
 case round =>
  obtain ⟨k, hk, rfl, hJs, hnx⟩ := hrel
  have hcx : k < len → wr.cell? ⟨b, off + (len - 1 - k) * 2, none⟩ = some (IN (z (len - 1 - k)).1) ∧ wr.cell? ⟨b, off + (len - 1 - k) * 2 + 1, none⟩ = some (IN (z (len - 1 - k)).2) := fun h => ⟨hK2 hnx (hc _ (by omega)).1, hK2 hnx (hc _ (by omega)).2⟩
  have hBsx : wr.cell? ⟨Bs, 0, none⟩ = some (.slice ao len cap) := hK1 hnx hBs
  by_cases hlt : k < len
  ·have hao' := hao (by omega)
   subst hao'
   obtain ⟨fn, tmps, assign, body, hy, hR⟩ := hY _ ((len : Int) - 1 - (k : Int), z (len - 1 - k)) wr hJs (by rw [upto_length]; exact hlt)
   dsimp only at hy
   obtain ⟨hcx1, hcx2⟩ := hcx hlt
   have e1 : ((len : Int) - 1 - (k : Int)) = ((len - 1 - k : Nat) : Int) := by omega
   rw [e1] at hy ⊢
   gi_wp2
   refine hR.mono ?_
   rintro e W3 (⟨rfl, hJ3, hk3⟩ | ⟨rfl, hJx3⟩)
   ·gi_wp2
    go_roundw
    case rel => exact ⟨k + 1, by omega, by simp; try omega, by rw [upto_succ]; exact hJ3, hKt hnx hk3⟩
    case measure => first | (simp [intOf]; omega) | simp [intOf]
   ·gi_wp2
    refine bodyPost_ret (results_none G _ _ _) G ?_
    exact ⟨⟨_, G⟩, .inr ⟨_, ⟨k + 1, by omega, by rw [upto_succ]⟩, hJx3⟩⟩
  ·obtain rfl : k = len := by omega
   have e1 : ((k : Int) - 1 - (k : Int)) = -1 := by omega
   rw [e1]
   gi_wp2
   go_end0
   exact ⟨⟨_, G⟩, .inl ⟨_, G, hJs⟩⟩
set_option maxHeartbeats 1000000 in
theorem bits_in (F : Fence) (n : Nat) (h : F.fn 86) (hro : F.round = none) (a : Option Addr) (len cap : Nat) (w : World) :
  CallsIn F n prog 86 #[.slice a len cap] w fun e w' => e = .returned (.func (.func 103) #[] #[.pointer (some ⟨w.heap.size, 0, none⟩)]) ∧ w' = w.alloc (.cells #[.slice a len cap] 114) := by
 refine callsIn_of_wp func86 G h ?_ hro
 simp only [Tryz.ntmps86, List.size_toArray, List.length_cons, List.length_nil, Nat.reduceAdd, Nat.reduceSub, Array.replicate_succ, Array.replicate_zero, List.push_toArray, List.append_toArray, List.nil_append, List.cons_append]
 gi_wp2
 go_ret
 exact ⟨G, G⟩
def backP (z : Nat → Nat × Nat) (len k : Nat) : List (Int × (Nat × Nat)) := upto (fun k => ((len : Int) - 1 - (k : Int), z (len - 1 - k))) k
theorem bits_stops (F : Fence) (n : Nat) (h103 : F.fn 103) (hro : F.round = none) (hn : 1 ≤ n) (Bs b off len cap : Nat) (z : Nat → Nat × Nat) (hreach : len ≤ 100) (w : World) (hBs : Bs < w.heap.size) (hb : 0 < len → b < w.heap.size)
  {Kp : World → World → Prop} (hKr : ∀ W, Kp W W) (hKt : ∀ {A B C : World}, Kp A B → Kp B C → Kp A C) (hK1 : ∀ {A B : World} {v : Value}, Kp A B → A.cell? ⟨Bs, 0, none⟩ = some v → B.cell? ⟨Bs, 0, none⟩ = some v) (hK2 : ∀ {A B : World} {j : Nat} {v : Value}, Kp A B → A.cell? ⟨b, j, none⟩ = some v → B.cell? ⟨b, j, none⟩ = some v)
  (ao : Option Addr) (hao : 0 < len → ao = some ⟨b, off, none⟩) (hc : w.cell? ⟨Bs, 0, none⟩ = some (.slice ao len cap)) (hI : ∀ j, j < len → w.cell? ⟨b, off + j * 2, none⟩ = some (IN (z j).1) ∧ w.cell? ⟨b, off + j * 2 + 1, none⟩ = some (IN (z j).2)) :
  SeqStopsK F n prog 103 #[.pointer (some ⟨Bs, 0, none⟩)] (fun x : Int × (Nat × Nat) => #[Value.int .i64 x.1, .agg #[IN x.2.1, IN x.2.2]]) Kp (fun ys => ys = backP z len len) (fun pre => ∃ k, k ≤ len ∧ pre = backP z len k) len w := fun l J Jx W hW _ _ hY h0 =>
 bits1_in F n h103 hro hn l Bs b off len cap z hreach hKr hKt hK1 hK2 J Jx hY W ao hao ((hW.cell (p := ⟨Bs, 0, none⟩) hBs).trans hc) (fun j hj => ⟨(hW.cell (p := ⟨b, off + j * 2, none⟩) (hb (by omega))).trans (hI j hj).1, (hW.cell (p := ⟨b, off + j * 2 + 1, none⟩) (hb (by omega))).trans (hI j hj).2⟩) h0
end Go.Proofs.S
end
section
namespace Go.Proofs.S
open Go Go.Ux Go.Ux.Mach Go.RowKit Go.Shelf Go.Proofs
open Tryz
attribute [local go_sem] Oper.semAt_some
def spreadS (s : BitVec 32 × BitVec 64) (p : Nat × Nat) : BitVec 32 × BitVec 64 := (s.1 ||| ((s.2 &&& (1#64 <<< p.2 - 1#64)).signExtend 32 <<< p.1), BitVec.sshiftRight s.2 p.2)
def spreadF (f : RvForm) (x : BitVec 64) : BitVec 32 := (f.imm.reverse.foldl spreadS (0#32, BitVec.sshiftRight x f.noughts)).1
def spreadP (x : BitVec 64) (f : RvForm) (pre : List (Int × (Nat × Nat))) : BitVec 32 × BitVec 64 := (pre.map (·.2)).foldl spreadS (0#32, BitVec.sshiftRight x f.noughts)
theorem spreadP_snoc (x : BitVec 64) (f : RvForm) (pre : List (Int × (Nat × Nat))) (p : Int × (Nat × Nat)) : spreadP x f (pre ++ [p]) = spreadS (spreadP x f pre) p.2 := by simp [spreadP]
theorem backP_all (l : List (Nat × Nat)) : (backP (fun j => l.getD j (0, 0)) l.length l.length).map (·.2) = l.reverse := by
 apply List.ext_getElem
 ·simp [backP, upto]
 ·intro i h1 h2
  have hi : i < l.length := by simpa using h2
  simp only [backP, upto, List.map_map, List.getElem_map, List.getElem_range, Function.comp]
  rw [List.getElem_reverse]
  simp [List.getD_eq_getElem?_getD, show l.length - 1 - i < l.length by omega]
theorem blk_own {W W' : World} {row : Option Nat} {b : Nat} {cs : Array Value} {t : TypeId} (h : Blk W b cs t) (hg : W.grownBy W' row) (hr : ∀ r, row = some r → ∃ o : Obj, W.heap[r]? = some o ∧ o.isCells = false) : Blk W' b cs t := by
 refine (hg.block b h.lt ?_).trans h
 intro e
 obtain ⟨o, ho, hc⟩ := hr b e.symm
 rw [h] at ho; cases ho; cases hc
def KeepO (O : Nat → Prop) (n₁ : Nat) (A B : World) : Prop := ∀ k, k < n₁ → ¬ O k → B.heap[k]? = A.heap[k]?
theorem KeepO.refl (O : Nat → Prop) (n₁ : Nat) (A : World) : KeepO O n₁ A A := fun _ _ _ => rfl
theorem KeepO.trans {O : Nat → Prop} {n₁ : Nat} {A B C : World} (h : KeepO O n₁ A B) (k : KeepO O n₁ B C) : KeepO O n₁ A C := fun i h1 h2 => (k i h1 h2).trans (h i h1 h2)
theorem KeepO.cell {O : Nat → Prop} {n₁ : Nat} {A B : World} (h : KeepO O n₁ A B) {b j : Nat} {v : Value} (h1 : b < n₁) (h2 : ¬ O b) (hc : A.cell? ⟨b, j, none⟩ = some v) : B.cell? ⟨b, j, none⟩ = some v :=
 (World.cell?_of_block (h b h1 h2)).trans hc
theorem KeepO.put {O : Nat → Prop} {n₁ : Nat} {w : World} (hw : n₁ ≤ w.heap.size) (W : World) (l : Nat) (o o' : Obj) (hl : w.heap.size ≤ l) (_ : W.heap[l]? = some o) (_ : o.isCells = false) (_ : o.isWalk = false) : KeepO O n₁ W (W.putObj l o') := fun k hk _ => World.putObj_heap_other (by omega)
theorem KeepO.mod {O : Nat → Prop} {n₁ : Nat} {A B : World} (h : Mod O A B) (hn : n₁ ≤ A.heap.size) : KeepO O n₁ A B := fun k hk ho => h.block k (by omega) ho
theorem toInt_shr (x : BitVec 64) (n : Nat) : x.toInt / 2 ^ n = (BitVec.sshiftRight x n).toInt := by
 rw [BitVec.toInt_sshiftRight, Int.shiftRight_eq_div_pow]; norm_cast
set_option maxHeartbeats 4000000 in
theorem spread_spec (f : RvForm) (iv : Value) (x : BitVec 64) (w : World) (hI : Sl w iv 2 f.imm.length (bitsCells f.imm)) (hf : Fine f) :
  CallsR prog 52 #[.agg #[.bool f.rd, .bool f.rs1, .bool f.rs2, iv, IN f.noughts, .bool f.signed, U32 f.mask], I64 x] w (fun v w' => v = U32 (spreadF f x) ∧ Ext w w') := by
 obtain ⟨ao, cap, rfl, hc, hl, h0⟩ := hI
 have hn1 : (0 : Int) ≤ (f.noughts : Int) := by omega
 have hn2 : (f.noughts : Int) ≤ 64 := by have := hf.2.2.1; omega
 refine (callsIn_wide (n := 5)).1 ?_
 refine callsIn_of_wp_marks func52 G trivial ?_ G
 simp only [Tryz.ntmps52, List.size_toArray, List.length_cons, List.length_nil, Nat.reduceAdd, Nat.reduceSub, Array.replicate_succ, Array.replicate_zero, List.push_toArray, List.append_toArray, List.nil_append, List.cons_append]
 gi_wp2_with (refine ⟨trivial, ?_⟩; gi_at_call 86; refine (bits_in Fence.wide _ trivial rfl _ _ _ _).mono ?_; rintro e w1 ⟨rfl, rfl⟩)
 rw [toInt_shr]
 obtain ⟨W0, hW0⟩ : ∃ W0, (((w.alloc (.cells #[.bool f.rd, .bool f.rs1, .bool f.rs2, .slice ao f.imm.length cap, IN f.noughts, .bool f.signed, U32 f.mask] 116)).alloc (.cells #[I64 (BitVec.sshiftRight x f.noughts)] 2)).alloc (.cells #[.int .u32 0] 50)).alloc (.cells #[.slice ao f.imm.length cap] 114) = W0 := ⟨_, rfl⟩
 have hsz : W0.heap.size = w.heap.size + 4 := by rw [← hW0]; simp
 have e0 := alloc_ext w (.cells #[.bool f.rd, .bool f.rs1, .bool f.rs2, .slice ao f.imm.length cap, IN f.noughts, .bool f.signed, U32 f.mask] 116)
 have b3 := alloc_blk (w.alloc (.cells #[.bool f.rd, .bool f.rs1, .bool f.rs2, .slice ao f.imm.length cap, IN f.noughts, .bool f.signed, U32 f.mask] 116)) #[I64 (BitVec.sshiftRight x f.noughts)] 2
 have e1 := alloc_ext (w.alloc (.cells #[.bool f.rd, .bool f.rs1, .bool f.rs2, .slice ao f.imm.length cap, IN f.noughts, .bool f.signed, U32 f.mask] 116)) (.cells #[I64 (BitVec.sshiftRight x f.noughts)] 2)
 have b5 := alloc_blk ((w.alloc (.cells #[.bool f.rd, .bool f.rs1, .bool f.rs2, .slice ao f.imm.length cap, IN f.noughts, .bool f.signed, U32 f.mask] 116)).alloc (.cells #[I64 (BitVec.sshiftRight x f.noughts)] 2)) #[.int .u32 0] 50
 have e2 := alloc_ext ((w.alloc (.cells #[.bool f.rd, .bool f.rs1, .bool f.rs2, .slice ao f.imm.length cap, IN f.noughts, .bool f.signed, U32 f.mask] 116)).alloc (.cells #[I64 (BitVec.sshiftRight x f.noughts)] 2)) (.cells #[.int .u32 0] 50)
 have b14 := alloc_blk (((w.alloc (.cells #[.bool f.rd, .bool f.rs1, .bool f.rs2, .slice ao f.imm.length cap, IN f.noughts, .bool f.signed, U32 f.mask] 116)).alloc (.cells #[I64 (BitVec.sshiftRight x f.noughts)] 2)).alloc (.cells #[.int .u32 0] 50)) #[.slice ao f.imm.length cap] 114
 have e3 := alloc_ext (((w.alloc (.cells #[.bool f.rd, .bool f.rs1, .bool f.rs2, .slice ao f.imm.length cap, IN f.noughts, .bool f.signed, U32 f.mask] 116)).alloc (.cells #[I64 (BitVec.sshiftRight x f.noughts)] 2)).alloc (.cells #[.int .u32 0] 50)) (.cells #[.slice ao f.imm.length cap] 114)
 have b3 := (b3.ext e2).ext e3
 have b5 := b5.ext e3
 have eW : Ext w W0 := by rw [← hW0]; exact ((e0.trans e1).trans e2).trans e3
 rw [hW0] at b3 b5 b14
 simp only [World.size_alloc] at b3 b5 b14
 rw [hW0]
 clear hW0 e0 e1 e2 e3
 have hcell : ∀ b off, ao = some ⟨b, off, none⟩ → ∀ j, j < f.imm.length → w.cell? ⟨b, off + j * 2, none⟩ = some (IN (f.imm.getD j (0, 0)).1) ∧ w.cell? ⟨b, off + j * 2 + 1, none⟩ = some (IN (f.imm.getD j (0, 0)).2) := by
  intro b off hab j hj
  rcases h0 with h0 | ⟨b', o', hb', hcl⟩
  ·omega
  ·rw [hab] at hb'; cases hb'
   have hg := bitsCells_get f.imm j hj
   have hd : f.imm.getD j (0, 0) = f.imm[j] := by simp [List.getD_eq_getElem?_getD, hj]
   rw [hd]
   exact ⟨hcl _ _ hg.1, by have := hcl _ _ hg.2; rwa [← Nat.add_assoc] at this⟩
 obtain ⟨gb, go, hgo, hgb⟩ : ∃ b off, (0 < f.imm.length → ao = some ⟨b, off, none⟩) ∧ b ≤ w.heap.size := by
  rcases h0 with h0 | ⟨b', o', hb', _⟩
  ·exact ⟨w.heap.size, 0, fun h => by omega, Nat.le_refl _⟩
  ·rcases Nat.eq_zero_or_pos f.imm.length with h1 | h1
   ·exact ⟨w.heap.size, 0, fun h => by omega, Nat.le_refl _⟩
   ·exact ⟨b', o', fun _ => hb', Nat.le_of_lt (World.block_lt_of_cell? w _ (hcell b' o' hb' 0 h1).1)⟩
 refine wpIn_rangeFunc_ownH G (by omega) (gf := 103) (lb := #[.pointer (some ⟨w.heap.size + 1 + 1 + 1, 0, none⟩)]) G trivial (enters_of func103 (by kernel_rfl) G)
  (bits_stops Fence.wide _ trivial rfl (by omega) (w.heap.size + 1 + 1 + 1) gb go f.imm.length cap (fun j => f.imm.getD j (0, 0)) (by have := hf.1; omega) W0 (by omega) (fun h => by omega) (Kp := KeepO (fun k => k = w.heap.size + 1 ∨ k = w.heap.size + 1 + 1) (w.heap.size + 4)) (KeepO.refl _ _) (fun h k => h.trans k) (fun h hc => h.cell (by omega) (by omega) hc) (fun h hc => h.cell (by omega) (by omega) hc) ao hgo (b14.cell rfl) (fun j hj => ⟨eW.cell (hcell gb go (hgo (by omega)) j hj).1 (fun h => h), eW.cell (hcell gb go (hgo (by omega)) j hj).2 (fun h => h)⟩))
  (fun h k => h.trans k) (KeepO.put (by omega)) (Below.refl _ _) (fun _ => rfl)
  (fun pre W => (Blk W (w.heap.size + 1) #[I64 (spreadP x f pre).2] 2 ∧ Blk W (w.heap.size + 1 + 1) #[U32 (spreadP x f pre).1] 50 ∧ Blk W (w.heap.size + 1 + 1 + 1) #[.slice ao f.imm.length cap] 114) ∧ Below w.heap.size w W)
  (fun _ _ _ => False)
  (OwnFrom.and (Own.from (fun s A B row hs hg hr => ⟨blk_own hs.1 hg hr, blk_own hs.2.1 hg hr, blk_own hs.2.2 hg hr⟩) _) (ownFrom_below (Nat.le_refl _) (by omega)))
  (fun _ _ _ _ _ hs _ _ => hs)
  ⟨⟨b3, b5, b14⟩, eW.below⟩
  (fun y a' W => ∃ Bx, w.heap.size + 3 < Bx ∧ Blk W Bx #[IN y.2.1, IN y.2.2] 125 ∧ a' = { tmps := #[.agg #[.bool f.rd, .bool f.rs1, .bool f.rs2, .slice ao f.imm.length cap, IN f.noughts, .bool f.signed, U32 f.mask], I64 x, .pointer (some ⟨w.heap.size, 0, none⟩), .pointer (some ⟨w.heap.size + 1, 0, none⟩), .int .u32 0, .pointer (some ⟨w.heap.size + 1 + 1, 0, none⟩), undef, .pointer (some ⟨Bx, 0, none⟩), I64 x, .pointer (some ⟨w.heap.size, 4, none⟩), IN f.noughts, (.int .i64 (x.toInt >>> f.noughts)), .pointer (some ⟨w.heap.size, 3, none⟩), .slice ao f.imm.length cap, .func (.func 103) #[] #[.pointer (some ⟨w.heap.size + 1 + 1 + 1, 0, none⟩)], .int .i64 y.1, .agg #[IN y.2.1, IN y.2.2], undef, undef, undef, undef, undef, undef, undef, undef, undef, undef, undef, undef, undef, undef, undef, undef, undef], defers := [] })
  (fun y a' _ X Y row hs hg hr => by obtain ⟨Bx, k1, k2, k3⟩ := hs; exact ⟨Bx, k1, blk_own k2 hg (fun r e => (hr r e).2), k3⟩)
  ?assign ?body ?done ?stop
 case assign =>
  rintro l pre y W K ⟨⟨c3, c5, c14⟩, hB⟩ hK
  gi_wp2
  exact hK _ _ ((KeepsOthers.alloc _ _).from _) (KeepO.mod (Mod.ext (alloc_ext W _)) (by have := c14.lt; omega)) ⟨⟨c3.ext (alloc_ext W _), c5.ext (alloc_ext W _), c14.ext (alloc_ext W _)⟩, hB.alloc hB.size _⟩ ⟨W.heap.size, by have := c14.lt; omega, alloc_blk W _ _, G⟩
 case body =>
  rintro l pre y a' W hl hr ⟨⟨c3, c5, c14⟩, hB⟩ ⟨Bx, hBx, c7, rfl⟩ hlt
  refine wpIn_mono (spread_body l _ _ W (w.heap.size + 1) (w.heap.size + 1 + 1) Bx (spreadP x f pre).1 (spreadP x f pre).2 y.2 G G G c3 c5 c7 (by omega) (by omega) (by omega) _ G G G) ?_
  rintro e a2 W2 ⟨_, _, rfl, hm, d3, d5⟩
  have hl14 := c14.lt
  refine ⟨?_, KeepO.mod hm (by omega), ⟨⟨?_, ?_, ?_⟩, ?_⟩⟩
  ·exact ⟨hm.size, fun i o hi ho _ => (hm.block i (Array.getElem?_eq_some_iff.1 ho).1 (by omega)).trans ho⟩
  ·rw [spreadP_snoc]; exact d3
  ·rw [spreadP_snoc]; exact d5
  ·exact c14.mod hm (by omega)
  ·exact hB.trans ⟨hm.os, hm.tape, hm.output, hm.size, fun k hk => hm.block k (by omega) (by omega)⟩
 case done =>
  rintro D ys W hD rfl ⟨⟨c3, c5, c14⟩, hB⟩ hK
  have h5 := c5.cell (j := 0) rfl
  have hv : (spreadP x f (backP (fun j => f.imm.getD j (0, 0)) f.imm.length f.imm.length)).1 = spreadF f x := by unfold spreadP spreadF; rw [backP_all]
  rw [hv] at h5
  gi_wp2
  refine ⟨by simp, .inl ⟨_, _, rfl, run_takeDeferred hK, ?_⟩⟩
  exact ⟨_, results_tmp G _ _ _, _, G, G, ext_of_below (hB.trans (belowK_b (w := w) (Nat.le_refl _) W D _ _ (by omega) hK G G))⟩
 case stop =>
  rintro D c pre W _ _ h _
  exact h.elim
end Go.Proofs.S
end
section
set_option linter.unusedSimpArgs false
set_option linter.unusedVariables false
namespace Go.Proofs.M
open Go Go.Ux Go.Ux.Mach Go.Proofs
def overW (f : RvForm) : BitVec 64 := 1#64 <<< width f
def fitsF (f : RvForm) (n : BitVec 64) : Bool :=
 let least := if f.signed then (-(overW f)).sdiv 2#64 else 0#64
 let over := if f.signed then (overW f).sdiv 2#64 else overW f
 BitVec.sle least n && BitVec.slt n over && ((n &&& ((1#64 <<< f.noughts) - 1#64)) == 0#64)
theorem fits_spec (fm : RvForm) (iv : Value) (x : BitVec 64) (w : World) (hI : Sl w iv 2 fm.imm.length (bitsCells fm.imm)) (hf : Fine fm) : Cx 50 #[.agg #[.bool fm.rd, .bool fm.rs1, .bool fm.rs2, iv, IN fm.noughts, .bool fm.signed, U32 fm.mask], I64 x] w (.bool (fitsF fm x)) := by
 have hf0 := hf
 obtain ⟨hf1, hf2, hf3, hf4⟩ := hf0
 refine Co Tryz.func50 G G ?_
 refine Sr (WL.box (v := .agg #[.bool fm.rd, .bool fm.rs1, .bool fm.rs2, iv, IN fm.noughts, .bool fm.signed, U32 fm.mask]) G G ?_)
 intro b2 w2 n2
 have E1 : Ext w w2 := n2.ext
 refine Ae (.bool false) (Ni (Sq (WC.draw (fun w_ => Ext w2 w_) 5 G mixed ?_)))
 intro wd_1 ed_1
 have R2 : Ext w2 wd_1 := ed_1
 have E3 := Mt E1 ed_1
 refine Tk 0 (.agg #[.bool fm.rd, .bool fm.rs1, .bool fm.rs2, iv, IN fm.noughts, .bool fm.signed, U32 fm.mask]) G G (fun _ hS => Se _ (n2.blk.ext hS) Ok) R2 (WA.one (i := 1) (m' := 3) (by kernel_rfl) G G (Ca (width_spec fm iv _ (hI.ext' E3) hf) ?_))
 rintro _ wd8 ⟨rfl, ed8⟩
 have R6 := Mt R2 ed8
 have E7 := Mt E3 ed8
 refine WL.behind R6 (Tp 2 (I64 (1#64 <<< width fm)) G G (Bn (vx := I64 1#64) G G (BinR.shl64 (s := width fm)) Ok) R6 (Tm 3 (I64 0#64) G G R6 (Tm 4 (I64 (1#64 <<< width fm)) G G R6 (WA.done (by kernel_rfl) (Sq (Sr (Fa G fo116_5 ?_)))))))
 have B11 := (n2.blk.ext ed_1).ext ed8
 refine Le (B11.cell (j := 5) G) (Ni ?_)
 refine WC.cond G (fun hc11 => ?_) (fun hc11 => ?_)
 ·refine Rg (Me (I64 (1#64 <<< width fm)) (WL.un G G UnR.neg64 (Bn (vy := I64 2#64) G G (BinR.quo64 (by decide)) (Me (I64 (1#64 <<< width fm)) (Bn (vy := I64 2#64) G G (BinR.quo64 (by decide)) (Ae (I64 ((-(1#64 <<< width fm)).sdiv 2#64)) (Ae (I64 ((1#64 <<< width fm).sdiv 2#64)) (Ni (Sr (Me (I64 x) (Me (I64 ((-(1#64 <<< width fm)).sdiv 2#64)) (Bn G G BinR.geq64 (Me (.bool (BitVec.sle ((-(1#64 <<< width fm)).sdiv 2#64) x)) ?_)))))))))))))
  rcases Bool.eq_false_or_eq_true (BitVec.sle ((-(1#64 <<< width fm)).sdiv 2#64) x) with hg20 | hg20
  ·refine Gy hg20 (Me (I64 x) (Gy hg20 (Me (I64 ((1#64 <<< width fm).sdiv 2#64)) (Gy hg20 (Bn G G BinR.lss64 (Qt hg20 G (Me (.bool (BitVec.slt x ((1#64 <<< width fm).sdiv 2#64))) ?_)))))))
   rcases Bool.eq_false_or_eq_true (BitVec.slt x ((1#64 <<< width fm).sdiv 2#64)) with hg25 | hg25
   ·refine Gy hg25 (Me (I64 x) (Gy hg25 (Fa G fo116_4 (Gy hg25 (Le (B11.cell (j := 4) G) (Gy hg25 (Bn (vx := I64 1#64) G G (BinR.shl64 (s := fm.noughts)) (Gy hg25 (Bn (vy := I64 1#64) G G BinR.sub64 (Gy hg25 (Bn G G BinR.and64 (Gy hg25 (Bn (vy := I64 0#64) G G BinR.eql64 (Qt hg25 G (Ae (.bool (((x &&& (1#64 <<< fm.noughts - 1#64)) == 0#64))) (Ni (WC.ret ?_)))))))))))))))))
    have hfin : ((.bool (((x &&& (1#64 <<< fm.noughts - 1#64)) == 0#64))) : Value) = Value.bool (fitsF fm x) := congrArg Value.bool (by simp only [fitsF, overW, *, if_true, if_false, Bool.false_eq_true, Bool.true_or, Bool.or_true, Bool.false_or, Bool.or_false, Bool.true_and, Bool.and_true, Bool.false_and, Bool.and_false])
    exact ⟨_, Ro G G, hfin, E7⟩
   ·refine Gz hg25 (Gz hg25 (Gz hg25 (Gz hg25 (Gz hg25 (Gz hg25 (Gz hg25 (Qf hg25 G (Ae (.bool false) (Ni (WC.ret ?_))))))))))
    have hfin : ((.bool false) : Value) = Value.bool (fitsF fm x) := congrArg Value.bool (by simp only [fitsF, overW, *, if_true, if_false, Bool.false_eq_true, Bool.true_or, Bool.or_true, Bool.false_or, Bool.or_false, Bool.true_and, Bool.and_true, Bool.false_and, Bool.and_false])
    exact ⟨_, Ro G G, hfin, E7⟩
  ·refine Gz hg20 (Gz hg20 (Gz hg20 (Qf hg20 G (Me (.bool false) (Gx (Gx (Gx (Gx (Gx (Gx (Gx (Pf G (Ae (.bool false) (Ni (WC.ret ?_)))))))))))))))
   have hfin : ((.bool false) : Value) = Value.bool (fitsF fm x) := congrArg Value.bool (by simp only [fitsF, overW, *, if_true, if_false, Bool.false_eq_true, Bool.true_or, Bool.or_true, Bool.false_or, Bool.or_false, Bool.true_and, Bool.and_true, Bool.false_and, Bool.and_false])
   exact ⟨_, Ro G G, hfin, E7⟩
 ·refine WC.skip (Sr (Me (I64 x) (Me (I64 0#64) (Bn G G BinR.geq64 (Me (.bool (BitVec.sle 0#64 x)) ?_)))))
  rcases Bool.eq_false_or_eq_true (BitVec.sle 0#64 x) with hg20 | hg20
  ·refine Gy hg20 (Me (I64 x) (Gy hg20 (Me (I64 (1#64 <<< width fm)) (Gy hg20 (Bn G G BinR.lss64 (Qt hg20 G (Me (.bool (BitVec.slt x (1#64 <<< width fm))) ?_)))))))
   rcases Bool.eq_false_or_eq_true (BitVec.slt x (1#64 <<< width fm)) with hg25 | hg25
   ·refine Gy hg25 (Me (I64 x) (Gy hg25 (Fa G fo116_4 (Gy hg25 (Le (B11.cell (j := 4) G) (Gy hg25 (Bn (vx := I64 1#64) G G (BinR.shl64 (s := fm.noughts)) (Gy hg25 (Bn (vy := I64 1#64) G G BinR.sub64 (Gy hg25 (Bn G G BinR.and64 (Gy hg25 (Bn (vy := I64 0#64) G G BinR.eql64 (Qt hg25 G (Ae (.bool (((x &&& (1#64 <<< fm.noughts - 1#64)) == 0#64))) (Ni (WC.ret ?_)))))))))))))))))
    have hfin : ((.bool (((x &&& (1#64 <<< fm.noughts - 1#64)) == 0#64))) : Value) = Value.bool (fitsF fm x) := congrArg Value.bool (by simp only [fitsF, overW, *, if_true, if_false, Bool.false_eq_true, Bool.true_or, Bool.or_true, Bool.false_or, Bool.or_false, Bool.true_and, Bool.and_true, Bool.false_and, Bool.and_false])
    exact ⟨_, Ro G G, hfin, E7⟩
   ·refine Gz hg25 (Gz hg25 (Gz hg25 (Gz hg25 (Gz hg25 (Gz hg25 (Gz hg25 (Qf hg25 G (Ae (.bool false) (Ni (WC.ret ?_))))))))))
    have hfin : ((.bool false) : Value) = Value.bool (fitsF fm x) := congrArg Value.bool (by simp only [fitsF, overW, *, if_true, if_false, Bool.false_eq_true, Bool.true_or, Bool.or_true, Bool.false_or, Bool.or_false, Bool.true_and, Bool.and_true, Bool.false_and, Bool.and_false])
    exact ⟨_, Ro G G, hfin, E7⟩
  ·refine Gz hg20 (Gz hg20 (Gz hg20 (Qf hg20 G (Me (.bool false) (Gx (Gx (Gx (Gx (Gx (Gx (Gx (Pf G (Ae (.bool false) (Ni (WC.ret ?_)))))))))))))))
   have hfin : ((.bool false) : Value) = Value.bool (fitsF fm x) := congrArg Value.bool (by simp only [fitsF, overW, *, if_true, if_false, Bool.false_eq_true, Bool.true_or, Bool.or_true, Bool.false_or, Bool.or_false, Bool.true_and, Bool.and_true, Bool.false_and, Bool.and_false])
   exact ⟨_, Ro G G, hfin, E7⟩
end Go.Proofs.M
end
section
set_option linter.unusedSimpArgs false
set_option linter.unusedVariables false
namespace Go.Proofs.S
open Go Go.Ux Go.Ux.Mach Go.Proofs
open Tryz
theorem fo48_0 : fieldOff prog 48 0 = some 0 := by kernel_rfl
theorem zt118 : zeroT prog 118 = some #[.bool false, .bool false, .bool false, .slice none 0 0, .int .i64 0, .bool false, .int .u32 0, .string ⟨#[]⟩, .int .u32 0] := by kernel_rfl
theorem sz118 : sizeT prog 118 = some 9 := by kernel_rfl
theorem fo118_0 : fieldOff prog 118 0 = some 0 := by kernel_rfl
theorem fo116_0 : fieldOff prog 116 0 = some 0 := by kernel_rfl
theorem fo48_1 : fieldOff prog 48 1 = some 1 := by kernel_rfl
theorem ca49 : callable prog 49 = true := by kernel_rfl
theorem fo116_1 : fieldOff prog 116 1 = some 1 := by kernel_rfl
theorem fo48_2 : fieldOff prog 48 2 = some 2 := by kernel_rfl
theorem fo116_2 : fieldOff prog 116 2 = some 2 := by kernel_rfl
theorem fo48_3 : fieldOff prog 48 3 = some 3 := by kernel_rfl
theorem fo116_3 : fieldOff prog 116 3 = some 3 := by kernel_rfl
theorem el114 : elemT prog 114 = some 125 := by kernel_rfl
theorem fo48_4 : fieldOff prog 48 4 = some 4 := by kernel_rfl
theorem ag116 : isAggT prog 116 = some true := by kernel_rfl
theorem sz116 : sizeT prog 116 = some 7 := by kernel_rfl
theorem fo118_2 : fieldOff prog 118 2 = some 8 := by kernel_rfl
theorem bls28_88o1 (p q r s t : BitVec 32) : ∀ w : World, (Instr.buildSlice 23 5 #[(0, U32 p), (1, U32 q), (2, U32 r), (3, U32 s), (4, U32 t)]).run prog w = .ok (Sv w.heap.size 5 5) (w.alloc (.cells #[U32 p, U32 q, U32 r, U32 s, U32 t] 50)) := fun _ => by kernel_rfl
theorem bls28_88o0 (p q r s t : BitVec 32) : ∀ w : World, (Instr.buildSlice 23 5 #[(0, U32 p), (1, U32 q), (2, U32 r), (3, U32 s), (4, U32 t)]).run prog w = .ok (Sv w.heap.size 5 5) (w.alloc (.cells #[U32 p, U32 q, U32 r, U32 s, U32 t] 50)) := fun _ => by kernel_rfl
open Go.Proofs.M (instV Glob mayF may_spec of_no of_ok fitsF fits_spec together_spec)
def encBad (a : RvInst) : Bool := !(mayF (formOf (rvAt a.op.toNat).k).rd a.rd) || (!(mayF (formOf (rvAt a.op.toNat).k).rs1 a.rs1) || (!(mayF (formOf (rvAt a.op.toNat).k).rs2 a.rs2) || (((((formOf (rvAt a.op.toNat).k).imm.length : Nat) : Int) == (0 : Int)) && (a.imm != 0#64))))
def encW (a : RvInst) : BitVec 32 := tog [(rvAt a.op.toNat).mtch, a.rd.setWidth 32 <<< 7, a.rs1.setWidth 32 <<< 15, a.rs2.setWidth 32 <<< 20, spreadF (formOf (rvAt a.op.toNat).k) a.imm]
def encodeR (a : RvInst) : BitVec 32 × Nat :=
 if a.op.toNat < 1 ∨ 66 ≤ a.op.toNat then (0#32, 100)
 else if encBad a then (0#32, 100)
 else if !(fitsF (formOf (rvAt a.op.toNat).k) a.imm) then (0#32, 101)
 else (encW a, 0)
theorem enc_no (a : RvInst) (w : World) (hG : Glob w) (ho : a.op.toNat < 1 ∨ 66 ≤ a.op.toNat) : Cx 28 #[.agg #[U8 a.op, U8 a.rd, U8 a.rs1, U8 a.rs2, I64 a.imm]] w (.tuple #[U32 0#32, .int .i64 100]) := by
 refine Co func28 G G ?_
 refine Sr (WL.box (v := .agg #[U8 a.op, U8 a.rd, U8 a.rs1, U8 a.rs2, I64 a.imm]) G G ?_)
 intro b1 w1 n1
 have E1 : Ext w w1 := n1.ext
 refine Ae (U32 0#32) (Ae (IN 0) (Ni (Sr (Fa G fo48_0 (Le (n1.blk.cell (j := 0) G) (Ca (of_no a.op _ (hG.ext E1) ho) ?_))))))
 rintro _ wof ⟨rfl, eof⟩
 have E2 := Mt E1 eof
 refine Me (.tuple #[rowVal (.slice none 0 0) zeroRow, .bool false]) (Et G G (Et G G (WL.allocStore (v := .agg #[.bool ((formOf zeroRow.k).rd), .bool ((formOf zeroRow.k).rs1), .bool ((formOf zeroRow.k).rs2), (.slice none 0 0), IN ((formOf zeroRow.k).noughts), .bool ((formOf zeroRow.k).signed), U32 ((formOf zeroRow.k).mask), St zeroRow.name, U32 zeroRow.mtch]) zt118 G sz118 G G G G ?_)))
 intro b4 w4 n4
 have E3 := Mt E2 n4.ext
 refine Ae (.bool false) (Ni (Sr (Ae (.func (.func 49) #[] #[]) (Ni (Sq (Sr (Me (.bool false) (WL.un G G UnR.not (Me (.bool true) (Gx (Gx (Gx (Gx (Gx (Gx (Gx (Gx (Pt G (Me (.bool true) (Gx (Gx ?_)))))))))))))))))))))
 refine Gx (Gx (Gx (Gx (Gx (Gx (Pt G (Me (.bool true) (Gx (Gx (Gx (Gx (Gx (Gx (Gx (Gx (Pt G (Me (.bool true) (Gx (Gx (Gx (Gx (Gx (Gx ?_)))))))))))))))))))))))
 refine WL.guardU G G (WL.guardU G G (WL.guardU G G (Gx (Pt G (Ni (Ct G (Sr (Ae (U32 0#32) (Ae (IN 100) (Ni (WC.ret ?_)))))))))))
 exact ⟨_, Rp G G G, G, E3⟩
theorem enc_bad1 (a : RvInst) (w : World) (hG : Glob w) (ho1 : 1 ≤ a.op.toNat) (ho2 : a.op.toNat < 66) (m1 : mayF (formOf (rvAt a.op.toNat).k).rd a.rd = false) : Cx 28 #[.agg #[U8 a.op, U8 a.rd, U8 a.rs1, U8 a.rs2, I64 a.imm]] w (.tuple #[U32 0#32, .int .i64 100]) := by
 refine Co func28 G G ?_
 refine Sr (WL.box (v := .agg #[U8 a.op, U8 a.rd, U8 a.rs1, U8 a.rs2, I64 a.imm]) G G ?_)
 intro b1 w1 n1
 have E1 : Ext w w1 := n1.ext
 refine Ae (U32 0#32) (Ae (IN 0) (Ni (Sr (Fa G fo48_0 (Le (n1.blk.cell (j := 0) G) (Ca (of_ok a.op _ (hG.ext E1) ho1 ho2) ?_))))))
 rintro _ wof ⟨iv, rfl, hIV, eof⟩
 have E2 := Mt E1 eof
 refine Me (.tuple #[rowVal iv (rvAt a.op.toNat), .bool true]) (Et G G (Et G G (WL.allocStore (v := .agg #[.bool ((formOf (rvAt a.op.toNat).k).rd), .bool ((formOf (rvAt a.op.toNat).k).rs1), .bool ((formOf (rvAt a.op.toNat).k).rs2), iv, IN ((formOf (rvAt a.op.toNat).k).noughts), .bool ((formOf (rvAt a.op.toNat).k).signed), U32 ((formOf (rvAt a.op.toNat).k).mask), St (rvAt a.op.toNat).name, U32 ((rvAt a.op.toNat).mtch)]) zt118 G sz118 G G (ones_row hIV.one _ _ _ _ _ _ _ _) G ?_)))
 intro b4 w4 n4
 have E3 := Mt E2 n4.ext
 refine Ae (.bool true) (Ni (Sr (Ae (.func (.func 49) #[] #[]) (Ni (Sq (Sr (Me (.bool true) (WL.un G G UnR.not (Me (.bool false) (Gr (Me (.func (.func 49) #[] #[]) (Gr (Fa G fo118_0 (Gr (Fa G fo116_0 (Gr (Le (n4.blk.cell (j := 0) G) (Gr (Fa G fo48_1 (Gr ?_))))))))))))))))))))
 have B4 := (n1.blk.ext eof).ext n4.ext
 refine Le (B4.cell (j := 1) G) (Gr (WL.callV (fs := #[]) (cs := #[]) G ca49 G G (may_spec (formOf (rvAt a.op.toNat).k).rd a.rd _) ?_))
 rintro _ wm22 ⟨rfl, em22⟩
 rw [m1]
 have E5 := Mt E3 em22
 refine Gr (WL.un G G UnR.not (Pf G (Me (.bool true) (Gx (Gx (Gx (Gx (Gx (Gx (Gx (Gx (Pt G (Me (.bool true) (Gx (Gx (Gx (Gx (Gx (Gx (Gx (Gx (Pt G (Me (.bool true) ?_)))))))))))))))))))))))
 refine Gx (Gx (Gx (Gx (Gx (Gx (WL.guardU G G (WL.guardU G G (WL.guardU G G (Gx (Pt G (Ni (Ct G (Sr (Ae (U32 0#32) (Ae (IN 100) (Ni (WC.ret ?_)))))))))))))))))
 exact ⟨_, Rp G G G, G, E5⟩
theorem enc_bad2 (a : RvInst) (w : World) (hG : Glob w) (ho1 : 1 ≤ a.op.toNat) (ho2 : a.op.toNat < 66) (m1 : mayF (formOf (rvAt a.op.toNat).k).rd a.rd = true) (m2 : mayF (formOf (rvAt a.op.toNat).k).rs1 a.rs1 = false) : Cx 28 #[.agg #[U8 a.op, U8 a.rd, U8 a.rs1, U8 a.rs2, I64 a.imm]] w (.tuple #[U32 0#32, .int .i64 100]) := by
 refine Co func28 G G ?_
 refine Sr (WL.box (v := .agg #[U8 a.op, U8 a.rd, U8 a.rs1, U8 a.rs2, I64 a.imm]) G G ?_)
 intro b1 w1 n1
 have E1 : Ext w w1 := n1.ext
 refine Ae (U32 0#32) (Ae (IN 0) (Ni (Sr (Fa G fo48_0 (Le (n1.blk.cell (j := 0) G) (Ca (of_ok a.op _ (hG.ext E1) ho1 ho2) ?_))))))
 rintro _ wof ⟨iv, rfl, hIV, eof⟩
 have E2 := Mt E1 eof
 refine Me (.tuple #[rowVal iv (rvAt a.op.toNat), .bool true]) (Et G G (Et G G (WL.allocStore (v := .agg #[.bool ((formOf (rvAt a.op.toNat).k).rd), .bool ((formOf (rvAt a.op.toNat).k).rs1), .bool ((formOf (rvAt a.op.toNat).k).rs2), iv, IN ((formOf (rvAt a.op.toNat).k).noughts), .bool ((formOf (rvAt a.op.toNat).k).signed), U32 ((formOf (rvAt a.op.toNat).k).mask), St (rvAt a.op.toNat).name, U32 ((rvAt a.op.toNat).mtch)]) zt118 G sz118 G G (ones_row hIV.one _ _ _ _ _ _ _ _) G ?_)))
 intro b4 w4 n4
 have E3 := Mt E2 n4.ext
 refine Ae (.bool true) (Ni (Sr (Ae (.func (.func 49) #[] #[]) (Ni (Sq (Sr (Me (.bool true) (WL.un G G UnR.not (Me (.bool false) (Gr (Me (.func (.func 49) #[] #[]) (Gr (Fa G fo118_0 (Gr (Fa G fo116_0 (Gr (Le (n4.blk.cell (j := 0) G) (Gr (Fa G fo48_1 (Gr ?_))))))))))))))))))))
 have B4 := (n1.blk.ext eof).ext n4.ext
 refine Le (B4.cell (j := 1) G) (Gr (WL.callV (fs := #[]) (cs := #[]) G ca49 G G (may_spec (formOf (rvAt a.op.toNat).k).rd a.rd _) ?_))
 rintro _ wm22 ⟨rfl, em22⟩
 rw [m1]
 have E5 := Mt E3 em22
 refine Gr (WL.un G G UnR.not (Pf G (Me (.bool false) (Gr (Me (.func (.func 49) #[] #[]) (Gr (Fa G fo118_0 (Gr (Fa G fo116_1 (Gr ?_))))))))))
 have B6 := n4.blk.ext em22
 refine Le (B6.cell (j := 1) G) (Gr (Fa G fo48_2 (Gr ?_)))
 have B7 := B4.ext em22
 refine Le (B7.cell (j := 2) G) (Gr (WL.callV (fs := #[]) (cs := #[]) G ca49 G G (may_spec (formOf (rvAt a.op.toNat).k).rs1 a.rs1 _) ?_))
 rintro _ wm32 ⟨rfl, em32⟩
 rw [m2]
 have E8 := Mt E5 em32
 refine Gr (WL.un G G UnR.not (Pf G (Me (.bool true) (Gx (Gx (Gx (Gx (Gx (Gx (Gx (Gx (Pt G (Me (.bool true) (Gx (Gx (Gx (Gx (Gx (Gx (WL.guardU G G (WL.guardU G G (WL.guardU G G (Gx ?_)))))))))))))))))))))))
 refine Pt G (Ni (Ct G (Sr (Ae (U32 0#32) (Ae (IN 100) (Ni (WC.ret ?_)))))))
 exact ⟨_, Rp G G G, G, E8⟩
theorem enc_bad3 (a : RvInst) (w : World) (hG : Glob w) (ho1 : 1 ≤ a.op.toNat) (ho2 : a.op.toNat < 66) (m1 : mayF (formOf (rvAt a.op.toNat).k).rd a.rd = true) (m2 : mayF (formOf (rvAt a.op.toNat).k).rs1 a.rs1 = true) (m3 : mayF (formOf (rvAt a.op.toNat).k).rs2 a.rs2 = false) : Cx 28 #[.agg #[U8 a.op, U8 a.rd, U8 a.rs1, U8 a.rs2, I64 a.imm]] w (.tuple #[U32 0#32, .int .i64 100]) := by
 refine Co func28 G G ?_
 refine Sr (WL.box (v := .agg #[U8 a.op, U8 a.rd, U8 a.rs1, U8 a.rs2, I64 a.imm]) G G ?_)
 intro b1 w1 n1
 have E1 : Ext w w1 := n1.ext
 refine Ae (U32 0#32) (Ae (IN 0) (Ni (Sr (Fa G fo48_0 (Le (n1.blk.cell (j := 0) G) (Ca (of_ok a.op _ (hG.ext E1) ho1 ho2) ?_))))))
 rintro _ wof ⟨iv, rfl, hIV, eof⟩
 have E2 := Mt E1 eof
 refine Me (.tuple #[rowVal iv (rvAt a.op.toNat), .bool true]) (Et G G (Et G G (WL.allocStore (v := .agg #[.bool ((formOf (rvAt a.op.toNat).k).rd), .bool ((formOf (rvAt a.op.toNat).k).rs1), .bool ((formOf (rvAt a.op.toNat).k).rs2), iv, IN ((formOf (rvAt a.op.toNat).k).noughts), .bool ((formOf (rvAt a.op.toNat).k).signed), U32 ((formOf (rvAt a.op.toNat).k).mask), St (rvAt a.op.toNat).name, U32 ((rvAt a.op.toNat).mtch)]) zt118 G sz118 G G (ones_row hIV.one _ _ _ _ _ _ _ _) G ?_)))
 intro b4 w4 n4
 have E3 := Mt E2 n4.ext
 refine Ae (.bool true) (Ni (Sr (Ae (.func (.func 49) #[] #[]) (Ni (Sq (Sr (Me (.bool true) (WL.un G G UnR.not (Me (.bool false) (Gr (Me (.func (.func 49) #[] #[]) (Gr (Fa G fo118_0 (Gr (Fa G fo116_0 (Gr (Le (n4.blk.cell (j := 0) G) (Gr (Fa G fo48_1 (Gr ?_))))))))))))))))))))
 have B4 := (n1.blk.ext eof).ext n4.ext
 refine Le (B4.cell (j := 1) G) (Gr (WL.callV (fs := #[]) (cs := #[]) G ca49 G G (may_spec (formOf (rvAt a.op.toNat).k).rd a.rd _) ?_))
 rintro _ wm22 ⟨rfl, em22⟩
 rw [m1]
 have E5 := Mt E3 em22
 refine Gr (WL.un G G UnR.not (Pf G (Me (.bool false) (Gr (Me (.func (.func 49) #[] #[]) (Gr (Fa G fo118_0 (Gr (Fa G fo116_1 (Gr ?_))))))))))
 have B6 := n4.blk.ext em22
 refine Le (B6.cell (j := 1) G) (Gr (Fa G fo48_2 (Gr ?_)))
 have B7 := B4.ext em22
 refine Le (B7.cell (j := 2) G) (Gr (WL.callV (fs := #[]) (cs := #[]) G ca49 G G (may_spec (formOf (rvAt a.op.toNat).k).rs1 a.rs1 _) ?_))
 rintro _ wm32 ⟨rfl, em32⟩
 rw [m2]
 have E8 := Mt E5 em32
 refine Gr (WL.un G G UnR.not (Pf G (Me (.bool false) (Gr (Me (.func (.func 49) #[] #[]) (Gr (Fa G fo118_0 (Gr (Fa G fo116_2 (Gr ?_))))))))))
 have B9 := B6.ext em32
 refine Le (B9.cell (j := 2) G) (Gr (Fa G fo48_3 (Gr ?_)))
 have B10 := B7.ext em32
 refine Le (B10.cell (j := 3) G) (Gr (WL.callV (fs := #[]) (cs := #[]) G ca49 G G (may_spec (formOf (rvAt a.op.toNat).k).rs2 a.rs2 _) ?_))
 rintro _ wm42 ⟨rfl, em42⟩
 rw [m3]
 have E11 := Mt E8 em42
 refine Gr (WL.un G G UnR.not (Pf G (Me (.bool true) (Gx (Gx (Gx (Gx (Gx (Gx (WL.guardU G G (WL.guardU G G (WL.guardU G G (Gx (Pt G (Ni (Ct G (Sr (Ae (U32 0#32) (Ae (IN 100) (Ni (WC.ret ?_)))))))))))))))))))))
 exact ⟨_, Rp G G G, G, E11⟩
theorem enc_bad4 (a : RvInst) (w : World) (hG : Glob w) (ho1 : 1 ≤ a.op.toNat) (ho2 : a.op.toNat < 66) (m1 : mayF (formOf (rvAt a.op.toNat).k).rd a.rd = true) (m2 : mayF (formOf (rvAt a.op.toNat).k).rs1 a.rs1 = true) (m3 : mayF (formOf (rvAt a.op.toNat).k).rs2 a.rs2 = true) (hi : ((((formOf (rvAt a.op.toNat).k).imm.length : Nat) : Int) == (0 : Int)) = true) (hn : (a.imm != 0#64) = true) : Cx 28 #[.agg #[U8 a.op, U8 a.rd, U8 a.rs1, U8 a.rs2, I64 a.imm]] w (.tuple #[U32 0#32, .int .i64 100]) := by
 refine Co func28 G G ?_
 refine Sr (WL.box (v := .agg #[U8 a.op, U8 a.rd, U8 a.rs1, U8 a.rs2, I64 a.imm]) G G ?_)
 intro b1 w1 n1
 have E1 : Ext w w1 := n1.ext
 refine Ae (U32 0#32) (Ae (IN 0) (Ni (Sr (Fa G fo48_0 (Le (n1.blk.cell (j := 0) G) (Ca (of_ok a.op _ (hG.ext E1) ho1 ho2) ?_))))))
 rintro _ wof ⟨iv, rfl, hIV, eof⟩
 have E2 := Mt E1 eof
 refine Me (.tuple #[rowVal iv (rvAt a.op.toNat), .bool true]) (Et G G (Et G G (WL.allocStore (v := .agg #[.bool ((formOf (rvAt a.op.toNat).k).rd), .bool ((formOf (rvAt a.op.toNat).k).rs1), .bool ((formOf (rvAt a.op.toNat).k).rs2), iv, IN ((formOf (rvAt a.op.toNat).k).noughts), .bool ((formOf (rvAt a.op.toNat).k).signed), U32 ((formOf (rvAt a.op.toNat).k).mask), St (rvAt a.op.toNat).name, U32 ((rvAt a.op.toNat).mtch)]) zt118 G sz118 G G (ones_row hIV.one _ _ _ _ _ _ _ _) G ?_)))
 intro b4 w4 n4
 have E3 := Mt E2 n4.ext
 refine Ae (.bool true) (Ni (Sr (Ae (.func (.func 49) #[] #[]) (Ni (Sq (Sr (Me (.bool true) (WL.un G G UnR.not (Me (.bool false) (Gr (Me (.func (.func 49) #[] #[]) (Gr (Fa G fo118_0 (Gr (Fa G fo116_0 (Gr (Le (n4.blk.cell (j := 0) G) (Gr (Fa G fo48_1 (Gr ?_))))))))))))))))))))
 have B4 := (n1.blk.ext eof).ext n4.ext
 refine Le (B4.cell (j := 1) G) (Gr (WL.callV (fs := #[]) (cs := #[]) G ca49 G G (may_spec (formOf (rvAt a.op.toNat).k).rd a.rd _) ?_))
 rintro _ wm22 ⟨rfl, em22⟩
 rw [m1]
 have E5 := Mt E3 em22
 refine Gr (WL.un G G UnR.not (Pf G (Me (.bool false) (Gr (Me (.func (.func 49) #[] #[]) (Gr (Fa G fo118_0 (Gr (Fa G fo116_1 (Gr ?_))))))))))
 have B6 := n4.blk.ext em22
 refine Le (B6.cell (j := 1) G) (Gr (Fa G fo48_2 (Gr ?_)))
 have B7 := B4.ext em22
 refine Le (B7.cell (j := 2) G) (Gr (WL.callV (fs := #[]) (cs := #[]) G ca49 G G (may_spec (formOf (rvAt a.op.toNat).k).rs1 a.rs1 _) ?_))
 rintro _ wm32 ⟨rfl, em32⟩
 rw [m2]
 have E8 := Mt E5 em32
 refine Gr (WL.un G G UnR.not (Pf G (Me (.bool false) (Gr (Me (.func (.func 49) #[] #[]) (Gr (Fa G fo118_0 (Gr (Fa G fo116_2 (Gr ?_))))))))))
 have B9 := B6.ext em32
 refine Le (B9.cell (j := 2) G) (Gr (Fa G fo48_3 (Gr ?_)))
 have B10 := B7.ext em32
 refine Le (B10.cell (j := 3) G) (Gr (WL.callV (fs := #[]) (cs := #[]) G ca49 G G (may_spec (formOf (rvAt a.op.toNat).k).rs2 a.rs2 _) ?_))
 rintro _ wm42 ⟨rfl, em42⟩
 rw [m3]
 have E11 := Mt E8 em42
 refine Gr (WL.un G G UnR.not (Pf G (Me (.bool false) (Gr (Fa G fo118_0 (Gr (Fa G fo116_3 (Gr ?_))))))))
 have B12 := B9.ext em42
 refine Le (B12.cell (j := 3) G) (Gr ?_)
 have S13 := (((hIV.ext' n4.ext).ext' em22).ext' em32).ext' em42
 refine WL.lenSl (sz := 2) (m := (formOf (rvAt a.op.toNat).k).imm.length) (xs := bitsCells (formOf (rvAt a.op.toNat).k).imm) el114 G S13 G (Gr (Bt G G BinR.eql hi (Gr (Me (.bool true) (Gr (Fa G fo48_4 (Gr ?_)))))))
 have B14 := B10.ext em42
 refine Le (B14.cell (j := 4) G) (Gr (Bt (vy := I64 0#64) G G BinR.neq64 hn (Gr (Pt G (Pf G (Ni (Ct G (Sr (Ae (U32 0#32) (Ae (IN 100) (Ni (WC.ret ?_))))))))))))
 exact ⟨_, Rp G G G, G, E11⟩
theorem enc_rangeTrue (a : RvInst) (w : World) (hG : Glob w) (ho1 : 1 ≤ a.op.toNat) (ho2 : a.op.toNat < 66) (m1 : mayF (formOf (rvAt a.op.toNat).k).rd a.rd = true) (m2 : mayF (formOf (rvAt a.op.toNat).k).rs1 a.rs1 = true) (m3 : mayF (formOf (rvAt a.op.toNat).k).rs2 a.rs2 = true) (hi : ((((formOf (rvAt a.op.toNat).k).imm.length : Nat) : Int) == (0 : Int)) = true)  (hn : (a.imm != 0#64) = false) (hf : fitsF (formOf (rvAt a.op.toNat).k) a.imm = false) : Cx 28 #[.agg #[U8 a.op, U8 a.rd, U8 a.rs1, U8 a.rs2, I64 a.imm]] w (.tuple #[U32 0#32, .int .i64 101]) := by
 refine Co func28 G G ?_
 refine Sr (WL.box (v := .agg #[U8 a.op, U8 a.rd, U8 a.rs1, U8 a.rs2, I64 a.imm]) G G ?_)
 intro b1 w1 n1
 have E1 : Ext w w1 := n1.ext
 refine Ae (U32 0#32) (Ae (IN 0) (Ni (Sr (Fa G fo48_0 (Le (n1.blk.cell (j := 0) G) (Ca (of_ok a.op _ (hG.ext E1) ho1 ho2) ?_))))))
 rintro _ wof ⟨iv, rfl, hIV, eof⟩
 have E2 := Mt E1 eof
 refine Me (.tuple #[rowVal iv (rvAt a.op.toNat), .bool true]) (Et G G (Et G G (WL.allocStore (v := .agg #[.bool ((formOf (rvAt a.op.toNat).k).rd), .bool ((formOf (rvAt a.op.toNat).k).rs1), .bool ((formOf (rvAt a.op.toNat).k).rs2), iv, IN ((formOf (rvAt a.op.toNat).k).noughts), .bool ((formOf (rvAt a.op.toNat).k).signed), U32 ((formOf (rvAt a.op.toNat).k).mask), St (rvAt a.op.toNat).name, U32 ((rvAt a.op.toNat).mtch)]) zt118 G sz118 G G (ones_row hIV.one _ _ _ _ _ _ _ _) G ?_)))
 intro b4 w4 n4
 have E3 := Mt E2 n4.ext
 refine Ae (.bool true) (Ni (Sr (Ae (.func (.func 49) #[] #[]) (Ni (Sq (Sr (Me (.bool true) (WL.un G G UnR.not (Me (.bool false) (Gr (Me (.func (.func 49) #[] #[]) (Gr (Fa G fo118_0 (Gr (Fa G fo116_0 (Gr (Le (n4.blk.cell (j := 0) G) (Gr (Fa G fo48_1 (Gr ?_))))))))))))))))))))
 have B4 := (n1.blk.ext eof).ext n4.ext
 refine Le (B4.cell (j := 1) G) (Gr (WL.callV (fs := #[]) (cs := #[]) G ca49 G G (may_spec (formOf (rvAt a.op.toNat).k).rd a.rd _) ?_))
 rintro _ wm22 ⟨rfl, em22⟩
 rw [m1]
 have E5 := Mt E3 em22
 refine Gr (WL.un G G UnR.not (Pf G (Me (.bool false) (Gr (Me (.func (.func 49) #[] #[]) (Gr (Fa G fo118_0 (Gr (Fa G fo116_1 (Gr ?_))))))))))
 have B6 := n4.blk.ext em22
 refine Le (B6.cell (j := 1) G) (Gr (Fa G fo48_2 (Gr ?_)))
 have B7 := B4.ext em22
 refine Le (B7.cell (j := 2) G) (Gr (WL.callV (fs := #[]) (cs := #[]) G ca49 G G (may_spec (formOf (rvAt a.op.toNat).k).rs1 a.rs1 _) ?_))
 rintro _ wm32 ⟨rfl, em32⟩
 rw [m2]
 have E8 := Mt E5 em32
 refine Gr (WL.un G G UnR.not (Pf G (Me (.bool false) (Gr (Me (.func (.func 49) #[] #[]) (Gr (Fa G fo118_0 (Gr (Fa G fo116_2 (Gr ?_))))))))))
 have B9 := B6.ext em32
 refine Le (B9.cell (j := 2) G) (Gr (Fa G fo48_3 (Gr ?_)))
 have B10 := B7.ext em32
 refine Le (B10.cell (j := 3) G) (Gr (WL.callV (fs := #[]) (cs := #[]) G ca49 G G (may_spec (formOf (rvAt a.op.toNat).k).rs2 a.rs2 _) ?_))
 rintro _ wm42 ⟨rfl, em42⟩
 rw [m3]
 have E11 := Mt E8 em42
 refine Gr (WL.un G G UnR.not (Pf G (Me (.bool false) (Gr (Fa G fo118_0 (Gr (Fa G fo116_3 (Gr ?_))))))))
 have B12 := B9.ext em42
 refine Le (B12.cell (j := 3) G) (Gr ?_)
 have S13 := (((hIV.ext' n4.ext).ext' em22).ext' em32).ext' em42
 refine WL.lenSl (sz := 2) (m := (formOf (rvAt a.op.toNat).k).imm.length) (xs := bitsCells (formOf (rvAt a.op.toNat).k).imm) el114 G S13 G (Gr (Bt G G BinR.eql hi (Gr (Me (.bool true) (Gr (Fa G fo48_4 (Gr ?_)))))))
 have B14 := B10.ext em42
 refine Le (B14.cell (j := 4) G) (Gr (Bf (vy := I64 0#64) G G BinR.neq64 hn (Gr (Pt G (Pf G (Ni (Cf G (WC.skip (Sq (Sr (Fa G fo118_0 (Se [.bool ((formOf (rvAt a.op.toNat).k).rd), .bool ((formOf (rvAt a.op.toNat).k).rs1), .bool ((formOf (rvAt a.op.toNat).k).rs2), iv, IN ((formOf (rvAt a.op.toNat).k).noughts), .bool ((formOf (rvAt a.op.toNat).k).signed), U32 ((formOf (rvAt a.op.toNat).k).mask)] B12 (Fa G fo48_4 (Le (B14.cell (j := 4) G) (Ca (fits_spec (formOf (rvAt a.op.toNat).k) iv a.imm _ S13 (formOf_fine _)) ?_)))))))))))))))
 rintro _ wft ⟨rfl, eft⟩
 rw [hf]
 have E15 := Mt E11 eft
 refine WL.un G G UnR.not (Ni (Ct G (Sr (Ae (U32 0#32) (Ae (IN 101) (Ni (WC.ret ?_)))))))
 exact ⟨_, Rp G G G, G, E15⟩
theorem enc_okTrue (a : RvInst) (w : World) (hG : Glob w) (ho1 : 1 ≤ a.op.toNat) (ho2 : a.op.toNat < 66) (m1 : mayF (formOf (rvAt a.op.toNat).k).rd a.rd = true) (m2 : mayF (formOf (rvAt a.op.toNat).k).rs1 a.rs1 = true) (m3 : mayF (formOf (rvAt a.op.toNat).k).rs2 a.rs2 = true) (hi : ((((formOf (rvAt a.op.toNat).k).imm.length : Nat) : Int) == (0 : Int)) = true)  (hn : (a.imm != 0#64) = false) (hf : fitsF (formOf (rvAt a.op.toNat).k) a.imm = true) : Cx 28 #[.agg #[U8 a.op, U8 a.rd, U8 a.rs1, U8 a.rs2, I64 a.imm]] w (.tuple #[U32 (encW a), .int .i64 0]) := by
 refine Co func28 G G ?_
 refine Sr (WL.box (v := .agg #[U8 a.op, U8 a.rd, U8 a.rs1, U8 a.rs2, I64 a.imm]) G G ?_)
 intro b1 w1 n1
 have E1 : Ext w w1 := n1.ext
 refine Ae (U32 0#32) (Ae (IN 0) (Ni (Sr (Fa G fo48_0 (Le (n1.blk.cell (j := 0) G) (Ca (of_ok a.op _ (hG.ext E1) ho1 ho2) ?_))))))
 rintro _ wof ⟨iv, rfl, hIV, eof⟩
 have E2 := Mt E1 eof
 refine Me (.tuple #[rowVal iv (rvAt a.op.toNat), .bool true]) (Et G G (Et G G (WL.allocStore (v := .agg #[.bool ((formOf (rvAt a.op.toNat).k).rd), .bool ((formOf (rvAt a.op.toNat).k).rs1), .bool ((formOf (rvAt a.op.toNat).k).rs2), iv, IN ((formOf (rvAt a.op.toNat).k).noughts), .bool ((formOf (rvAt a.op.toNat).k).signed), U32 ((formOf (rvAt a.op.toNat).k).mask), St (rvAt a.op.toNat).name, U32 ((rvAt a.op.toNat).mtch)]) zt118 G sz118 G G (ones_row hIV.one _ _ _ _ _ _ _ _) G ?_)))
 intro b4 w4 n4
 have E3 := Mt E2 n4.ext
 refine Ae (.bool true) (Ni (Sr (Ae (.func (.func 49) #[] #[]) (Ni (Sq (Sr (Me (.bool true) (WL.un G G UnR.not (Me (.bool false) (Gr (Me (.func (.func 49) #[] #[]) (Gr (Fa G fo118_0 (Gr (Fa G fo116_0 (Gr (Le (n4.blk.cell (j := 0) G) (Gr (Fa G fo48_1 (Gr ?_))))))))))))))))))))
 have B4 := (n1.blk.ext eof).ext n4.ext
 refine Le (B4.cell (j := 1) G) (Gr (WL.callV (fs := #[]) (cs := #[]) G ca49 G G (may_spec (formOf (rvAt a.op.toNat).k).rd a.rd _) ?_))
 rintro _ wm22 ⟨rfl, em22⟩
 rw [m1]
 have E5 := Mt E3 em22
 refine Gr (WL.un G G UnR.not (Pf G (Me (.bool false) (Gr (Me (.func (.func 49) #[] #[]) (Gr (Fa G fo118_0 (Gr (Fa G fo116_1 (Gr ?_))))))))))
 have B6 := n4.blk.ext em22
 refine Le (B6.cell (j := 1) G) (Gr (Fa G fo48_2 (Gr ?_)))
 have B7 := B4.ext em22
 refine Le (B7.cell (j := 2) G) (Gr (WL.callV (fs := #[]) (cs := #[]) G ca49 G G (may_spec (formOf (rvAt a.op.toNat).k).rs1 a.rs1 _) ?_))
 rintro _ wm32 ⟨rfl, em32⟩
 rw [m2]
 have E8 := Mt E5 em32
 refine Gr (WL.un G G UnR.not (Pf G (Me (.bool false) (Gr (Me (.func (.func 49) #[] #[]) (Gr (Fa G fo118_0 (Gr (Fa G fo116_2 (Gr ?_))))))))))
 have B9 := B6.ext em32
 refine Le (B9.cell (j := 2) G) (Gr (Fa G fo48_3 (Gr ?_)))
 have B10 := B7.ext em32
 refine Le (B10.cell (j := 3) G) (Gr (WL.callV (fs := #[]) (cs := #[]) G ca49 G G (may_spec (formOf (rvAt a.op.toNat).k).rs2 a.rs2 _) ?_))
 rintro _ wm42 ⟨rfl, em42⟩
 rw [m3]
 have E11 := Mt E8 em42
 refine Gr (WL.un G G UnR.not (Pf G (Me (.bool false) (Gr (Fa G fo118_0 (Gr (Fa G fo116_3 (Gr ?_))))))))
 have B12 := B9.ext em42
 refine Le (B12.cell (j := 3) G) (Gr ?_)
 have S13 := (((hIV.ext' n4.ext).ext' em22).ext' em32).ext' em42
 refine WL.lenSl (sz := 2) (m := (formOf (rvAt a.op.toNat).k).imm.length) (xs := bitsCells (formOf (rvAt a.op.toNat).k).imm) el114 G S13 G (Gr (Bt G G BinR.eql hi (Gr (Me (.bool true) (Gr (Fa G fo48_4 (Gr ?_)))))))
 have B14 := B10.ext em42
 refine Le (B14.cell (j := 4) G) (Gr (Bf (vy := I64 0#64) G G BinR.neq64 hn (Gr (Pt G (Pf G (Ni (Cf G (WC.skip (Sq (Sr (Fa G fo118_0 (Se [.bool ((formOf (rvAt a.op.toNat).k).rd), .bool ((formOf (rvAt a.op.toNat).k).rs1), .bool ((formOf (rvAt a.op.toNat).k).rs2), iv, IN ((formOf (rvAt a.op.toNat).k).noughts), .bool ((formOf (rvAt a.op.toNat).k).signed), U32 ((formOf (rvAt a.op.toNat).k).mask)] B12 (Fa G fo48_4 (Le (B14.cell (j := 4) G) (Ca (fits_spec (formOf (rvAt a.op.toNat).k) iv a.imm _ S13 (formOf_fine _)) ?_)))))))))))))))
 rintro _ wft ⟨rfl, eft⟩
 rw [hf]
 have E15 := Mt E11 eft
 refine WL.un G G UnR.not (Ni (Cf G (WC.skip (Sq (WC.draw (fun w_ => Ext wft w_) 29 G mixed ?_)))))
 intro wd_7 ed_7
 have R16 : Ext wft wd_7 := ed_7
 have E17 := Mt E15 ed_7
 refine Tp 0 (ptr b4 8) G G (Fa G fo118_2 Ok) R16 (Tk 1 (U32 ((rvAt a.op.toNat).mtch)) G G (fun _ hS => Le (((B12.ext eft).ext hS).cell (j := 8) G) Ok) R16 (Tp 2 (ptr b1 1) G G (Fa G fo48_1 Ok) R16 (Tk 3 (U8 a.rd) G G (fun _ hS => Le (((B14.ext eft).ext hS).cell (j := 1) G) Ok) R16 (Tp 4 (U32 (a.rd.setWidth 32)) G G (Cv G (ConvR.u8u32 y5 y50) Ok) R16 (Tp 5 (ptr 0 0) G G (Fa G fo125_0 Ok) R16 (Tk 6 (IN 7) G G (fun wx hS => have E26 : Ext w wx := Mt E15 hS; Lx G ((hG.ext E26).rd 0 _ G) Ok) R16 (Tp 7 (U32 (a.rd.setWidth 32 <<< 7)) G G (Bn G G (BinR.shlU32 (s := 7)) Ok) R16 (Tp 8 (ptr b1 2) G G (Fa G fo48_2 Ok) R16 (Tk 9 (U8 a.rs1) G G (fun _ hS => Le (((B14.ext eft).ext hS).cell (j := 2) G) Ok) R16 (Tp 10 (U32 (a.rs1.setWidth 32)) G G (Cv G (ConvR.u8u32 y5 y50) Ok) R16 (Tp 11 (ptr 1 0) G G (Fa G fo125_0 Ok) R16 (Tk 12 (IN 15) G G (fun wx hS => have E33 : Ext w wx := Mt E15 hS; Lx G ((hG.ext E33).rs1 0 _ G) Ok) R16 (Tp 13 (U32 (a.rs1.setWidth 32 <<< 15)) G G (Bn G G (BinR.shlU32 (s := 15)) Ok) R16 (Tp 14 (ptr b1 3) G G (Fa G fo48_3 Ok) R16 (Tk 15 (U8 a.rs2) G G (fun _ hS => Le (((B14.ext eft).ext hS).cell (j := 3) G) Ok) R16 (Tp 16 (U32 (a.rs2.setWidth 32)) G G (Cv G (ConvR.u8u32 y5 y50) Ok) R16 (Tp 17 (ptr 2 0) G G (Fa G fo125_0 Ok) R16 (Tk 18 (IN 20) G G (fun wx hS => have E40 : Ext w wx := Mt E15 hS; Lx G ((hG.ext E40).rs2 0 _ G) Ok) R16 (Tp 19 (U32 (a.rs2.setWidth 32 <<< 20)) G G (Bn G G (BinR.shlU32 (s := 20)) Ok) R16 (Tp 20 (ptr b4 0) G G (Fa G fo118_0 Ok) R16 (Tk 21 (.agg #[.bool ((formOf (rvAt a.op.toNat).k).rd), .bool ((formOf (rvAt a.op.toNat).k).rs1), .bool ((formOf (rvAt a.op.toNat).k).rs2), iv, IN ((formOf (rvAt a.op.toNat).k).noughts), .bool ((formOf (rvAt a.op.toNat).k).signed), U32 ((formOf (rvAt a.op.toNat).k).mask)]) G G (fun _ hS => Se _ ((B12.ext eft).ext hS) Ok) R16 (Tp 22 (ptr b1 4) G G (Fa G fo48_4 Ok) R16 (Tk 23 (I64 a.imm) G G (fun _ hS => Le (((B14.ext eft).ext hS).cell (j := 4) G) Ok) R16 ?_)))))))))))))))))))))))
 refine WA.one (i := 24) (m' := 33554431) (by kernel_rfl) G G ?_
 have S48 := (S13.ext' eft).ext' ed_7
 refine Ca (spread_spec (formOf (rvAt a.op.toNat).k) iv a.imm _ S48 (formOf_fine _)) ?_
 rintro _ wsp ⟨rfl, esp⟩
 have R49 := Mt R16 esp
 have E50 := Mt E17 esp
 refine WL.behind R49 (WA.one (i := 25) (m' := 67108863) (by kernel_rfl) G G (WL.buildSlice (vs := [(0, U32 ((rvAt a.op.toNat).mtch)), (1, U32 (a.rd.setWidth 32 <<< 7)), (2, U32 (a.rs1.setWidth 32 <<< 15)), (3, U32 (a.rs2.setWidth 32 <<< 20)), (4, U32 (spreadF (formOf (rvAt a.op.toNat).k) a.imm))]) G (bls28_88o1 (rvAt a.op.toNat).mtch (a.rd.setWidth 32 <<< 7) (a.rs1.setWidth 32 <<< 15) (a.rs2.setWidth 32 <<< 20) (spreadF (formOf (rvAt a.op.toNat).k) a.imm)) G ?_))
 intro b88 w88 n88
 have R51 := Mt R49 n88.ext
 have E52 := Mt E50 n88.ext
 refine WL.behind R51 (WA.one (i := 26) (m' := 134217727) (by kernel_rfl) G G (Ca (together_spec (Sv b88 5 5) [(rvAt a.op.toNat).mtch, a.rd.setWidth 32 <<< 7, a.rs1.setWidth 32 <<< 15, a.rs2.setWidth 32 <<< 20, spreadF (formOf (rvAt a.op.toNat).k) a.imm] _ (Go.Proofs.M.Sl.ofCells (n := 5) n88.blk.cells G) (Nat.le_of_ble_eq_true G)) ?_))
 rintro _ wtg ⟨rfl, etg⟩
 have R53 := Mt R51 etg
 have E54 := Mt E52 etg
 refine WL.behind R53 (Tm 27 (U32 (tog [(rvAt a.op.toNat).mtch, a.rd.setWidth 32 <<< 7, a.rs1.setWidth 32 <<< 15, a.rs2.setWidth 32 <<< 20, spreadF (formOf (rvAt a.op.toNat).k) a.imm])) G G R53 (Tm 28 (IN 0) G G R53 (WA.done (by kernel_rfl) (WC.ret ?_))))
 exact ⟨_, Rp G G G, G, E54⟩
theorem enc_rangeFalse (a : RvInst) (w : World) (hG : Glob w) (ho1 : 1 ≤ a.op.toNat) (ho2 : a.op.toNat < 66) (m1 : mayF (formOf (rvAt a.op.toNat).k).rd a.rd = true) (m2 : mayF (formOf (rvAt a.op.toNat).k).rs1 a.rs1 = true) (m3 : mayF (formOf (rvAt a.op.toNat).k).rs2 a.rs2 = true) (hi : ((((formOf (rvAt a.op.toNat).k).imm.length : Nat) : Int) == (0 : Int)) = false) (hf : fitsF (formOf (rvAt a.op.toNat).k) a.imm = false) : Cx 28 #[.agg #[U8 a.op, U8 a.rd, U8 a.rs1, U8 a.rs2, I64 a.imm]] w (.tuple #[U32 0#32, .int .i64 101]) := by
 refine Co func28 G G ?_
 refine Sr (WL.box (v := .agg #[U8 a.op, U8 a.rd, U8 a.rs1, U8 a.rs2, I64 a.imm]) G G ?_)
 intro b1 w1 n1
 have E1 : Ext w w1 := n1.ext
 refine Ae (U32 0#32) (Ae (IN 0) (Ni (Sr (Fa G fo48_0 (Le (n1.blk.cell (j := 0) G) (Ca (of_ok a.op _ (hG.ext E1) ho1 ho2) ?_))))))
 rintro _ wof ⟨iv, rfl, hIV, eof⟩
 have E2 := Mt E1 eof
 refine Me (.tuple #[rowVal iv (rvAt a.op.toNat), .bool true]) (Et G G (Et G G (WL.allocStore (v := .agg #[.bool ((formOf (rvAt a.op.toNat).k).rd), .bool ((formOf (rvAt a.op.toNat).k).rs1), .bool ((formOf (rvAt a.op.toNat).k).rs2), iv, IN ((formOf (rvAt a.op.toNat).k).noughts), .bool ((formOf (rvAt a.op.toNat).k).signed), U32 ((formOf (rvAt a.op.toNat).k).mask), St (rvAt a.op.toNat).name, U32 ((rvAt a.op.toNat).mtch)]) zt118 G sz118 G G (ones_row hIV.one _ _ _ _ _ _ _ _) G ?_)))
 intro b4 w4 n4
 have E3 := Mt E2 n4.ext
 refine Ae (.bool true) (Ni (Sr (Ae (.func (.func 49) #[] #[]) (Ni (Sq (Sr (Me (.bool true) (WL.un G G UnR.not (Me (.bool false) (Gr (Me (.func (.func 49) #[] #[]) (Gr (Fa G fo118_0 (Gr (Fa G fo116_0 (Gr (Le (n4.blk.cell (j := 0) G) (Gr (Fa G fo48_1 (Gr ?_))))))))))))))))))))
 have B4 := (n1.blk.ext eof).ext n4.ext
 refine Le (B4.cell (j := 1) G) (Gr (WL.callV (fs := #[]) (cs := #[]) G ca49 G G (may_spec (formOf (rvAt a.op.toNat).k).rd a.rd _) ?_))
 rintro _ wm22 ⟨rfl, em22⟩
 rw [m1]
 have E5 := Mt E3 em22
 refine Gr (WL.un G G UnR.not (Pf G (Me (.bool false) (Gr (Me (.func (.func 49) #[] #[]) (Gr (Fa G fo118_0 (Gr (Fa G fo116_1 (Gr ?_))))))))))
 have B6 := n4.blk.ext em22
 refine Le (B6.cell (j := 1) G) (Gr (Fa G fo48_2 (Gr ?_)))
 have B7 := B4.ext em22
 refine Le (B7.cell (j := 2) G) (Gr (WL.callV (fs := #[]) (cs := #[]) G ca49 G G (may_spec (formOf (rvAt a.op.toNat).k).rs1 a.rs1 _) ?_))
 rintro _ wm32 ⟨rfl, em32⟩
 rw [m2]
 have E8 := Mt E5 em32
 refine Gr (WL.un G G UnR.not (Pf G (Me (.bool false) (Gr (Me (.func (.func 49) #[] #[]) (Gr (Fa G fo118_0 (Gr (Fa G fo116_2 (Gr ?_))))))))))
 have B9 := B6.ext em32
 refine Le (B9.cell (j := 2) G) (Gr (Fa G fo48_3 (Gr ?_)))
 have B10 := B7.ext em32
 refine Le (B10.cell (j := 3) G) (Gr (WL.callV (fs := #[]) (cs := #[]) G ca49 G G (may_spec (formOf (rvAt a.op.toNat).k).rs2 a.rs2 _) ?_))
 rintro _ wm42 ⟨rfl, em42⟩
 rw [m3]
 have E11 := Mt E8 em42
 refine Gr (WL.un G G UnR.not (Pf G (Me (.bool false) (Gr (Fa G fo118_0 (Gr (Fa G fo116_3 (Gr ?_))))))))
 have B12 := B9.ext em42
 refine Le (B12.cell (j := 3) G) (Gr ?_)
 have S13 := (((hIV.ext' n4.ext).ext' em22).ext' em32).ext' em42
 refine WL.lenSl (sz := 2) (m := (formOf (rvAt a.op.toNat).k).imm.length) (xs := bitsCells (formOf (rvAt a.op.toNat).k).imm) el114 G S13 G (Gr (Bf G G BinR.eql hi (Gr (Me (.bool false) (Gx (Gx (Gx (Gr (Pf G (Pf G (Ni (Cf G (WC.skip (Sq (Sr (Fa G fo118_0 (Se [.bool ((formOf (rvAt a.op.toNat).k).rd), .bool ((formOf (rvAt a.op.toNat).k).rs1), .bool ((formOf (rvAt a.op.toNat).k).rs2), iv, IN ((formOf (rvAt a.op.toNat).k).noughts), .bool ((formOf (rvAt a.op.toNat).k).signed), U32 ((formOf (rvAt a.op.toNat).k).mask)] B12 (Fa G fo48_4 ?_))))))))))))))))))
 have B14 := B10.ext em42
 refine Le (B14.cell (j := 4) G) (Ca (fits_spec (formOf (rvAt a.op.toNat).k) iv a.imm _ S13 (formOf_fine _)) ?_)
 rintro _ wft ⟨rfl, eft⟩
 rw [hf]
 have E15 := Mt E11 eft
 refine WL.un G G UnR.not (Ni (Ct G (Sr (Ae (U32 0#32) (Ae (IN 101) (Ni (WC.ret ?_)))))))
 exact ⟨_, Rp G G G, G, E15⟩
theorem enc_okFalse (a : RvInst) (w : World) (hG : Glob w) (ho1 : 1 ≤ a.op.toNat) (ho2 : a.op.toNat < 66) (m1 : mayF (formOf (rvAt a.op.toNat).k).rd a.rd = true) (m2 : mayF (formOf (rvAt a.op.toNat).k).rs1 a.rs1 = true) (m3 : mayF (formOf (rvAt a.op.toNat).k).rs2 a.rs2 = true) (hi : ((((formOf (rvAt a.op.toNat).k).imm.length : Nat) : Int) == (0 : Int)) = false) (hf : fitsF (formOf (rvAt a.op.toNat).k) a.imm = true) : Cx 28 #[.agg #[U8 a.op, U8 a.rd, U8 a.rs1, U8 a.rs2, I64 a.imm]] w (.tuple #[U32 (encW a), .int .i64 0]) := by
 refine Co func28 G G ?_
 refine Sr (WL.box (v := .agg #[U8 a.op, U8 a.rd, U8 a.rs1, U8 a.rs2, I64 a.imm]) G G ?_)
 intro b1 w1 n1
 have E1 : Ext w w1 := n1.ext
 refine Ae (U32 0#32) (Ae (IN 0) (Ni (Sr (Fa G fo48_0 (Le (n1.blk.cell (j := 0) G) (Ca (of_ok a.op _ (hG.ext E1) ho1 ho2) ?_))))))
 rintro _ wof ⟨iv, rfl, hIV, eof⟩
 have E2 := Mt E1 eof
 refine Me (.tuple #[rowVal iv (rvAt a.op.toNat), .bool true]) (Et G G (Et G G (WL.allocStore (v := .agg #[.bool ((formOf (rvAt a.op.toNat).k).rd), .bool ((formOf (rvAt a.op.toNat).k).rs1), .bool ((formOf (rvAt a.op.toNat).k).rs2), iv, IN ((formOf (rvAt a.op.toNat).k).noughts), .bool ((formOf (rvAt a.op.toNat).k).signed), U32 ((formOf (rvAt a.op.toNat).k).mask), St (rvAt a.op.toNat).name, U32 ((rvAt a.op.toNat).mtch)]) zt118 G sz118 G G (ones_row hIV.one _ _ _ _ _ _ _ _) G ?_)))
 intro b4 w4 n4
 have E3 := Mt E2 n4.ext
 refine Ae (.bool true) (Ni (Sr (Ae (.func (.func 49) #[] #[]) (Ni (Sq (Sr (Me (.bool true) (WL.un G G UnR.not (Me (.bool false) (Gr (Me (.func (.func 49) #[] #[]) (Gr (Fa G fo118_0 (Gr (Fa G fo116_0 (Gr (Le (n4.blk.cell (j := 0) G) (Gr (Fa G fo48_1 (Gr ?_))))))))))))))))))))
 have B4 := (n1.blk.ext eof).ext n4.ext
 refine Le (B4.cell (j := 1) G) (Gr (WL.callV (fs := #[]) (cs := #[]) G ca49 G G (may_spec (formOf (rvAt a.op.toNat).k).rd a.rd _) ?_))
 rintro _ wm22 ⟨rfl, em22⟩
 rw [m1]
 have E5 := Mt E3 em22
 refine Gr (WL.un G G UnR.not (Pf G (Me (.bool false) (Gr (Me (.func (.func 49) #[] #[]) (Gr (Fa G fo118_0 (Gr (Fa G fo116_1 (Gr ?_))))))))))
 have B6 := n4.blk.ext em22
 refine Le (B6.cell (j := 1) G) (Gr (Fa G fo48_2 (Gr ?_)))
 have B7 := B4.ext em22
 refine Le (B7.cell (j := 2) G) (Gr (WL.callV (fs := #[]) (cs := #[]) G ca49 G G (may_spec (formOf (rvAt a.op.toNat).k).rs1 a.rs1 _) ?_))
 rintro _ wm32 ⟨rfl, em32⟩
 rw [m2]
 have E8 := Mt E5 em32
 refine Gr (WL.un G G UnR.not (Pf G (Me (.bool false) (Gr (Me (.func (.func 49) #[] #[]) (Gr (Fa G fo118_0 (Gr (Fa G fo116_2 (Gr ?_))))))))))
 have B9 := B6.ext em32
 refine Le (B9.cell (j := 2) G) (Gr (Fa G fo48_3 (Gr ?_)))
 have B10 := B7.ext em32
 refine Le (B10.cell (j := 3) G) (Gr (WL.callV (fs := #[]) (cs := #[]) G ca49 G G (may_spec (formOf (rvAt a.op.toNat).k).rs2 a.rs2 _) ?_))
 rintro _ wm42 ⟨rfl, em42⟩
 rw [m3]
 have E11 := Mt E8 em42
 refine Gr (WL.un G G UnR.not (Pf G (Me (.bool false) (Gr (Fa G fo118_0 (Gr (Fa G fo116_3 (Gr ?_))))))))
 have B12 := B9.ext em42
 refine Le (B12.cell (j := 3) G) (Gr ?_)
 have S13 := (((hIV.ext' n4.ext).ext' em22).ext' em32).ext' em42
 refine WL.lenSl (sz := 2) (m := (formOf (rvAt a.op.toNat).k).imm.length) (xs := bitsCells (formOf (rvAt a.op.toNat).k).imm) el114 G S13 G (Gr (Bf G G BinR.eql hi (Gr (Me (.bool false) (Gx (Gx (Gx (Gr (Pf G (Pf G (Ni (Cf G (WC.skip (Sq (Sr (Fa G fo118_0 (Se [.bool ((formOf (rvAt a.op.toNat).k).rd), .bool ((formOf (rvAt a.op.toNat).k).rs1), .bool ((formOf (rvAt a.op.toNat).k).rs2), iv, IN ((formOf (rvAt a.op.toNat).k).noughts), .bool ((formOf (rvAt a.op.toNat).k).signed), U32 ((formOf (rvAt a.op.toNat).k).mask)] B12 (Fa G fo48_4 ?_))))))))))))))))))
 have B14 := B10.ext em42
 refine Le (B14.cell (j := 4) G) (Ca (fits_spec (formOf (rvAt a.op.toNat).k) iv a.imm _ S13 (formOf_fine _)) ?_)
 rintro _ wft ⟨rfl, eft⟩
 rw [hf]
 have E15 := Mt E11 eft
 refine WL.un G G UnR.not (Ni (Cf G (WC.skip (Sq (WC.draw (fun w_ => Ext wft w_) 29 G mixed ?_)))))
 intro wd_7 ed_7
 have R16 : Ext wft wd_7 := ed_7
 have E17 := Mt E15 ed_7
 refine Tp 0 (ptr b4 8) G G (Fa G fo118_2 Ok) R16 (Tk 1 (U32 ((rvAt a.op.toNat).mtch)) G G (fun _ hS => Le (((B12.ext eft).ext hS).cell (j := 8) G) Ok) R16 (Tp 2 (ptr b1 1) G G (Fa G fo48_1 Ok) R16 (Tk 3 (U8 a.rd) G G (fun _ hS => Le (((B14.ext eft).ext hS).cell (j := 1) G) Ok) R16 (Tp 4 (U32 (a.rd.setWidth 32)) G G (Cv G (ConvR.u8u32 y5 y50) Ok) R16 (Tp 5 (ptr 0 0) G G (Fa G fo125_0 Ok) R16 (Tk 6 (IN 7) G G (fun wx hS => have E26 : Ext w wx := Mt E15 hS; Lx G ((hG.ext E26).rd 0 _ G) Ok) R16 (Tp 7 (U32 (a.rd.setWidth 32 <<< 7)) G G (Bn G G (BinR.shlU32 (s := 7)) Ok) R16 (Tp 8 (ptr b1 2) G G (Fa G fo48_2 Ok) R16 (Tk 9 (U8 a.rs1) G G (fun _ hS => Le (((B14.ext eft).ext hS).cell (j := 2) G) Ok) R16 (Tp 10 (U32 (a.rs1.setWidth 32)) G G (Cv G (ConvR.u8u32 y5 y50) Ok) R16 (Tp 11 (ptr 1 0) G G (Fa G fo125_0 Ok) R16 (Tk 12 (IN 15) G G (fun wx hS => have E33 : Ext w wx := Mt E15 hS; Lx G ((hG.ext E33).rs1 0 _ G) Ok) R16 (Tp 13 (U32 (a.rs1.setWidth 32 <<< 15)) G G (Bn G G (BinR.shlU32 (s := 15)) Ok) R16 (Tp 14 (ptr b1 3) G G (Fa G fo48_3 Ok) R16 (Tk 15 (U8 a.rs2) G G (fun _ hS => Le (((B14.ext eft).ext hS).cell (j := 3) G) Ok) R16 (Tp 16 (U32 (a.rs2.setWidth 32)) G G (Cv G (ConvR.u8u32 y5 y50) Ok) R16 (Tp 17 (ptr 2 0) G G (Fa G fo125_0 Ok) R16 (Tk 18 (IN 20) G G (fun wx hS => have E40 : Ext w wx := Mt E15 hS; Lx G ((hG.ext E40).rs2 0 _ G) Ok) R16 (Tp 19 (U32 (a.rs2.setWidth 32 <<< 20)) G G (Bn G G (BinR.shlU32 (s := 20)) Ok) R16 (Tp 20 (ptr b4 0) G G (Fa G fo118_0 Ok) R16 (Tk 21 (.agg #[.bool ((formOf (rvAt a.op.toNat).k).rd), .bool ((formOf (rvAt a.op.toNat).k).rs1), .bool ((formOf (rvAt a.op.toNat).k).rs2), iv, IN ((formOf (rvAt a.op.toNat).k).noughts), .bool ((formOf (rvAt a.op.toNat).k).signed), U32 ((formOf (rvAt a.op.toNat).k).mask)]) G G (fun _ hS => Se _ ((B12.ext eft).ext hS) Ok) R16 (Tp 22 (ptr b1 4) G G (Fa G fo48_4 Ok) R16 (Tk 23 (I64 a.imm) G G (fun _ hS => Le (((B14.ext eft).ext hS).cell (j := 4) G) Ok) R16 ?_)))))))))))))))))))))))
 refine WA.one (i := 24) (m' := 33554431) (by kernel_rfl) G G ?_
 have S48 := (S13.ext' eft).ext' ed_7
 refine Ca (spread_spec (formOf (rvAt a.op.toNat).k) iv a.imm _ S48 (formOf_fine _)) ?_
 rintro _ wsp ⟨rfl, esp⟩
 have R49 := Mt R16 esp
 have E50 := Mt E17 esp
 refine WL.behind R49 (WA.one (i := 25) (m' := 67108863) (by kernel_rfl) G G (WL.buildSlice (vs := [(0, U32 ((rvAt a.op.toNat).mtch)), (1, U32 (a.rd.setWidth 32 <<< 7)), (2, U32 (a.rs1.setWidth 32 <<< 15)), (3, U32 (a.rs2.setWidth 32 <<< 20)), (4, U32 (spreadF (formOf (rvAt a.op.toNat).k) a.imm))]) G (bls28_88o0 (rvAt a.op.toNat).mtch (a.rd.setWidth 32 <<< 7) (a.rs1.setWidth 32 <<< 15) (a.rs2.setWidth 32 <<< 20) (spreadF (formOf (rvAt a.op.toNat).k) a.imm)) G ?_))
 intro b88 w88 n88
 have R51 := Mt R49 n88.ext
 have E52 := Mt E50 n88.ext
 refine WL.behind R51 (WA.one (i := 26) (m' := 134217727) (by kernel_rfl) G G (Ca (together_spec (Sv b88 5 5) [(rvAt a.op.toNat).mtch, a.rd.setWidth 32 <<< 7, a.rs1.setWidth 32 <<< 15, a.rs2.setWidth 32 <<< 20, spreadF (formOf (rvAt a.op.toNat).k) a.imm] _ (Go.Proofs.M.Sl.ofCells (n := 5) n88.blk.cells G) (Nat.le_of_ble_eq_true G)) ?_))
 rintro _ wtg ⟨rfl, etg⟩
 have R53 := Mt R51 etg
 have E54 := Mt E52 etg
 refine WL.behind R53 (Tm 27 (U32 (tog [(rvAt a.op.toNat).mtch, a.rd.setWidth 32 <<< 7, a.rs1.setWidth 32 <<< 15, a.rs2.setWidth 32 <<< 20, spreadF (formOf (rvAt a.op.toNat).k) a.imm])) G G R53 (Tm 28 (IN 0) G G R53 (WA.done (by kernel_rfl) (WC.ret ?_))))
 exact ⟨_, Rp G G G, G, E54⟩
theorem encode_spec (a : RvInst) (w : World) (hG : Glob w) : Cx 28 #[instV a] w (.tuple #[U32 (encodeR a).1, IN (encodeR a).2]) := by
 unfold encodeR
 by_cases ho : a.op.toNat < 1 ∨ 66 ≤ a.op.toNat
 ·rw [if_pos ho]; exact enc_no a w hG ho
 rw [if_neg ho]
 have ho1 : 1 ≤ a.op.toNat := by omega
 have ho2 : a.op.toNat < 66 := by omega
 rcases hb : encBad a with _ | _
 ·simp only [encBad, Bool.or_eq_false_iff, Bool.not_eq_false', Bool.and_eq_false_iff] at hb
  obtain ⟨m1, m2, m3, h4⟩ := hb
  rcases hf : fitsF (formOf (rvAt a.op.toNat).k) a.imm with _ | _
  ·rcases Bool.eq_false_or_eq_true ((((formOf (rvAt a.op.toNat).k).imm.length : Nat) : Int) == (0 : Int)) with hi | hi
   ·exact enc_rangeTrue a w hG ho1 ho2 m1 m2 m3 hi (h4.resolve_left (by rw [hi]; decide)) hf
   ·exact enc_rangeFalse a w hG ho1 ho2 m1 m2 m3 hi hf
  ·rcases Bool.eq_false_or_eq_true ((((formOf (rvAt a.op.toNat).k).imm.length : Nat) : Int) == (0 : Int)) with hi | hi
   ·exact enc_okTrue a w hG ho1 ho2 m1 m2 m3 hi (h4.resolve_left (by rw [hi]; decide)) hf
   ·exact enc_okFalse a w hG ho1 ho2 m1 m2 m3 hi hf
 ·rcases h1 : mayF (formOf (rvAt a.op.toNat).k).rd a.rd with _ | _
  ·exact enc_bad1 a w hG ho1 ho2 h1
  rcases h2 : mayF (formOf (rvAt a.op.toNat).k).rs1 a.rs1 with _ | _
  ·exact enc_bad2 a w hG ho1 ho2 h1 h2
  rcases h3 : mayF (formOf (rvAt a.op.toNat).k).rs2 a.rs2 with _ | _
  ·exact enc_bad3 a w hG ho1 ho2 h1 h2 h3
  ·simp only [encBad, h1, h2, h3, Bool.not_true, Bool.false_or, Bool.and_eq_true] at hb
   exact enc_bad4 a w hG ho1 ho2 h1 h2 h3 hb.1 hb.2
end Go.Proofs.S
end
section
set_option linter.unusedSimpArgs false
set_option linter.unusedVariables false
namespace Go.Proofs.N
open Go Go.Ux Go.Ux.Mach Go.Proofs
open Tryz
theorem ca125 : callable prog 125 = true := by kernel_rfl
theorem ca124 : callable prog 124 = true := by kernel_rfl
theorem mixed : prog.follows .mixedOrders = true := by kernel_rfl
theorem add_spec (x y : BitVec 64) (w : World) : Cx 104 #[U64 x, U64 y] w (U64 (x + y)) := by
 refine Co func104 G G ?_
 refine Sr (Ae (U64 0#64) (Ni (Sr (Me (U64 x) (Me (U64 y) (Bn G G BinR.addU64 (Ae (U64 ((x + y))) (Ni (WC.ret ?_)))))))))
 exact ⟨_, Ro G G, G, Mod.refl _ _⟩
theorem sub_spec (x y : BitVec 64) (w : World) : Cx 105 #[U64 x, U64 y] w (U64 (x - y)) := by
 refine Co func105 G G ?_
 refine Sr (Ae (U64 0#64) (Ni (Sr (Me (U64 x) (Me (U64 y) (Bn G G BinR.subU64 (Ae (U64 ((x - y))) (Ni (WC.ret ?_)))))))))
 exact ⟨_, Ro G G, G, Mod.refl _ _⟩
theorem xor_spec (x y : BitVec 64) (w : World) : Cx 109 #[U64 x, U64 y] w (U64 (x ^^^ y)) := by
 refine Co func109 G G ?_
 refine Sr (Ae (U64 0#64) (Ni (Sr (Me (U64 x) (Me (U64 y) (Bn G G BinR.xorU64 (Ae (U64 ((x ^^^ y))) (Ni (WC.ret ?_)))))))))
 exact ⟨_, Ro G G, G, Mod.refl _ _⟩
theorem or_spec (x y : BitVec 64) (w : World) : Cx 110 #[U64 x, U64 y] w (U64 (x ||| y)) := by
 refine Co func110 G G ?_
 refine Sr (Ae (U64 0#64) (Ni (Sr (Me (U64 x) (Me (U64 y) (Bn G G BinR.orU64 (Ae (U64 ((x ||| y))) (Ni (WC.ret ?_)))))))))
 exact ⟨_, Ro G G, G, Mod.refl _ _⟩
theorem and_spec (x y : BitVec 64) (w : World) : Cx 111 #[U64 x, U64 y] w (U64 (x &&& y)) := by
 refine Co func111 G G ?_
 refine Sr (Ae (U64 0#64) (Ni (Sr (Me (U64 x) (Me (U64 y) (Bn G G BinR.andU64 (Ae (U64 ((x &&& y))) (Ni (WC.ret ?_)))))))))
 exact ⟨_, Ro G G, G, Mod.refl _ _⟩
theorem mul_spec (x y : BitVec 64) (w : World) : Cx 112 #[U64 x, U64 y] w (U64 (x * y)) := by
 refine Co func112 G G ?_
 refine Sr (Ae (U64 0#64) (Ni (Sr (Me (U64 x) (Me (U64 y) (Bn G G BinR.mulU64 (Ae (U64 ((x * y))) (Ni (WC.ret ?_)))))))))
 exact ⟨_, Ro G G, G, Mod.refl _ _⟩
theorem bit_spec (b : Bool) (w : World) : Cx 107 #[.bool b] w (U64 (bitW b)) := by
 refine Co func107 G G ?_
 refine Sr (Ae (U64 0#64) (Ni (Sq (Sr (Me (.bool b) (Ni ?_))))))
 refine WC.cond G (fun hc3 => ?_) (fun hc3 => ?_)
 ·refine Sr (Ae (U64 1#64) (Ni (WC.ret ?_)))
  exact ⟨_, Res.one (v := U64 1#64) G G, (by rw [hc3]; rfl), Mod.refl _ _⟩
 ·refine WC.skip (Sr (Ae (U64 0#64) (Ni (WC.ret ?_))))
  exact ⟨_, Res.one (v := U64 0#64) G G, (by rw [hc3]; rfl), Mod.refl _ _⟩
theorem slt_spec (x y : BitVec 64) (w : World) : Cx 106 #[U64 x, U64 y] w (U64 (bitW (BitVec.slt x y))) := by
 refine Co func106 G G ?_
 refine Sr (Ae (U64 0#64) (Ni (Sr (Me (U64 x) (Cv G (ConvR.u64i64 y39 y2) (Me (U64 y) (Cv G (ConvR.u64i64 y39 y2) (Bn G G BinR.lss64 (Ca (bit_spec (BitVec.slt x y) _) ?_)))))))))
 rintro _ wb10 ⟨rfl, eb10⟩
 have E1 : Ext w wb10 := eb10
 refine Ae (U64 (bitW (BitVec.slt x y))) (Ni (WC.ret ?_))
 exact ⟨_, Ro G G, G, E1⟩
theorem sltu_spec (x y : BitVec 64) (w : World) : Cx 108 #[U64 x, U64 y] w (U64 (bitW (BitVec.ult x y))) := by
 refine Co func108 G G ?_
 refine Sr (Ae (U64 0#64) (Ni (Sr (Me (U64 x) (Me (U64 y) (Bn G G BinR.lssU64 (Ca (bit_spec (BitVec.ult x y) _) ?_)))))))
 rintro _ wb8 ⟨rfl, eb8⟩
 have E1 : Ext w wb8 := eb8
 refine Ae (U64 (bitW (BitVec.ult x y))) (Ni (WC.ret ?_))
 exact ⟨_, Ro G G, G, E1⟩
theorem sll_spec (x y : BitVec 64) (w : World) : Cx 115 #[U64 x, U64 y] w (U64 (sllW x y)) := by
 refine Co func115 G G ?_
 refine Sr (Ae (U64 0#64) (Ni (Sr (Me (U64 x) (Me (U64 y) (Bn (vy := U64 63#64) G G BinR.andU64 (Bn G G (BinR.shlU64 (s := (y &&& 63#64).toNat)) (Ae (U64 (x <<< (y &&& 63#64).toNat)) (Ni (WC.ret ?_))))))))))
 exact ⟨_, Ro G G, G, Mod.refl _ _⟩
theorem srl_spec (x y : BitVec 64) (w : World) : Cx 117 #[U64 x, U64 y] w (U64 (srlW x y)) := by
 refine Co func117 G G ?_
 refine Sr (Ae (U64 0#64) (Ni (Sr (Me (U64 x) (Me (U64 y) (Bn (vy := U64 63#64) G G BinR.andU64 (Bn G G (BinR.shrU64 (s := (y &&& 63#64).toNat)) (Ae (U64 (x >>> (y &&& 63#64).toNat)) (Ni (WC.ret ?_))))))))))
 exact ⟨_, Ro G G, G, Mod.refl _ _⟩
theorem sra_spec (x y : BitVec 64) (w : World) : Cx 118 #[U64 x, U64 y] w (U64 (sraW x y)) := by
 refine Co func118 G G ?_
 refine Sr (Ae (U64 0#64) (Ni (Sr (Me (U64 x) (Cv G (ConvR.u64i64 y39 y2) (Me (U64 y) (Bn (vy := U64 63#64) G G BinR.andU64 (Bn G G (BinR.shr64 (s := (y &&& 63#64).toNat)) (Cv G (ConvR.i64u64 y2 y39) (Ae (U64 (BitVec.sshiftRight x (y &&& 63#64).toNat)) (Ni (WC.ret ?_))))))))))))
 exact ⟨_, Ro G G, G, Mod.refl _ _⟩
theorem div_spec (x y : BitVec 64) (w : World) : Cx 119 #[U64 x, U64 y] w (U64 (divW x y)) := by
 refine Co func119 G G ?_
 refine Sr (Ae (U64 0#64) (Ni (Sr (Me (U64 x) (Cv G (ConvR.u64i64 y39 y2) (Me (U64 y) (Cv G (ConvR.u64i64 y39 y2) (Ae (I64 x) (Ae (I64 y) (Ni (Sq (Bk (Sr (Me (I64 y) (Bn (vy := I64 0#64) G G BinR.eql64 (Ae (.bool ((y == 0#64))) (Ni ?_)))))))))))))))))
 refine WC.cond G (fun hc11 => ?_) (fun hc11 => ?_)
 ·refine Sr (Ae (U64 18446744073709551615#64) (Ni (WC.ret ?_)))
  have hfin : ((U64 18446744073709551615#64) : Value) = U64 (divW x y) := congrArg U64 (by unfold divW; simp only [*, Bool.false_eq_true, if_false, if_true])
  exact ⟨_, Ro G G, hfin, Mod.refl _ _⟩
 ·have hy0 : y ≠ 0#64 := by simpa using hc11
  refine Sr (Me (I64 y) (Bn (vy := I64 (BitVec.ofInt 64 (-1))) G (cI64 _ (by decide)) BinR.eql64 (Ae (.bool ((y == BitVec.ofInt 64 (-1)))) (Ni ?_))))
  refine WC.cond G (fun hc14 => ?_) (fun hc14 => ?_)
  ·refine Sr (Me (U64 x) (WL.un G G UnR.negU64 (Ae (U64 (-x)) (Ni (WC.ret ?_)))))
   have hfin : ((U64 (-x)) : Value) = U64 (divW x y) := congrArg U64 (by unfold divW; simp only [*, Bool.false_eq_true, if_false, if_true])
   exact ⟨_, Ro G G, hfin, Mod.refl _ _⟩
  ·refine WC.skip (Sr (Me (I64 x) (Me (I64 y) (Bn G G (BinR.quo64 hy0) (Cv G (ConvR.i64u64 y2 y39) (Ae (U64 (x.sdiv y)) (Ni (WC.ret ?_))))))))
   have hfin : ((U64 (x.sdiv y)) : Value) = U64 (divW x y) := congrArg U64 (by unfold divW; simp only [*, Bool.false_eq_true, if_false, if_true])
   exact ⟨_, Ro G G, hfin, Mod.refl _ _⟩
theorem rem_spec (x y : BitVec 64) (w : World) : Cx 121 #[U64 x, U64 y] w (U64 (remW x y)) := by
 refine Co func121 G G ?_
 refine Sr (Ae (U64 0#64) (Ni (Sr (Me (U64 x) (Cv G (ConvR.u64i64 y39 y2) (Me (U64 y) (Cv G (ConvR.u64i64 y39 y2) (Ae (I64 x) (Ae (I64 y) (Ni (Sq (Bk (Sr (Me (I64 y) (Bn (vy := I64 0#64) G G BinR.eql64 (Ae (.bool ((y == 0#64))) (Ni ?_)))))))))))))))))
 refine WC.cond G (fun hc11 => ?_) (fun hc11 => ?_)
 ·refine Sr (Me (U64 x) (Ae (U64 x) (Ni (WC.ret ?_))))
  have hfin : ((U64 x) : Value) = U64 (remW x y) := congrArg U64 (by unfold remW; simp only [*, Bool.false_eq_true, if_false, if_true])
  exact ⟨_, Ro G G, hfin, Mod.refl _ _⟩
 ·have hy0 : y ≠ 0#64 := by simpa using hc11
  refine Sr (Me (I64 y) (Bn (vy := I64 (BitVec.ofInt 64 (-1))) G (cI64 _ (by decide)) BinR.eql64 (Ae (.bool ((y == BitVec.ofInt 64 (-1)))) (Ni ?_))))
  refine WC.cond G (fun hc15 => ?_) (fun hc15 => ?_)
  ·refine Sr (Ae (U64 0#64) (Ni (WC.ret ?_)))
   have hfin : ((U64 0#64) : Value) = U64 (remW x y) := congrArg U64 (by unfold remW; simp only [*, Bool.false_eq_true, if_false, if_true])
   exact ⟨_, Ro G G, hfin, Mod.refl _ _⟩
  ·refine WC.skip (Sr (Me (I64 x) (Me (I64 y) (Bn G G (BinR.rem64 hy0) (Cv G (ConvR.i64u64 y2 y39) (Ae (U64 (x.srem y)) (Ni (WC.ret ?_))))))))
   have hfin : ((U64 (x.srem y)) : Value) = U64 (remW x y) := congrArg U64 (by unfold remW; simp only [*, Bool.false_eq_true, if_false, if_true])
   exact ⟨_, Ro G G, hfin, Mod.refl _ _⟩
theorem divu_spec (x y : BitVec 64) (w : World) : Cx 120 #[U64 x, U64 y] w (U64 (divuW x y)) := by
 refine Co func120 G G ?_
 refine Sr (Ae (U64 0#64) (Ni (Sq (Sr (Me (U64 y) (Bn (vy := U64 0#64) G G BinR.eqlU64 (Ni ?_)))))))
 refine WC.cond G (fun hc6 => ?_) (fun hc6 => ?_)
 ·refine Sr (Ae (U64 18446744073709551615#64) (Ni (WC.ret ?_)))
  have hfin : ((U64 18446744073709551615#64) : Value) = U64 (divuW x y) := congrArg U64 (by unfold divuW; simp only [*, Bool.false_eq_true, if_false, if_true])
  exact ⟨_, Ro G G, hfin, Mod.refl _ _⟩
 ·have hy0 : y ≠ 0#64 := by simpa using hc6
  refine WC.skip (Sr (Me (U64 x) (Me (U64 y) (Bn G G (BinR.quoU64 hy0) (Ae (U64 (x / y)) (Ni (WC.ret ?_)))))))
  have hfin : ((U64 (x / y)) : Value) = U64 (divuW x y) := congrArg U64 (by unfold divuW; simp only [*, Bool.false_eq_true, if_false, if_true])
  exact ⟨_, Ro G G, hfin, Mod.refl _ _⟩
theorem remu_spec (x y : BitVec 64) (w : World) : Cx 122 #[U64 x, U64 y] w (U64 (remuW x y)) := by
 refine Co func122 G G ?_
 refine Sr (Ae (U64 0#64) (Ni (Sq (Sr (Me (U64 y) (Bn (vy := U64 0#64) G G BinR.eqlU64 (Ni ?_)))))))
 refine WC.cond G (fun hc6 => ?_) (fun hc6 => ?_)
 ·refine Sr (Me (U64 x) (Ae (U64 x) (Ni (WC.ret ?_))))
  have hfin : ((U64 x) : Value) = U64 (remuW x y) := congrArg U64 (by unfold remuW; simp only [*, Bool.false_eq_true, if_false, if_true])
  exact ⟨_, Ro G G, hfin, Mod.refl _ _⟩
 ·have hy0 : y ≠ 0#64 := by simpa using hc6
  refine WC.skip (Sr (Me (U64 x) (Me (U64 y) (Bn G G (BinR.remU64 hy0) (Ae (U64 (x % y)) (Ni (WC.ret ?_)))))))
  have hfin : ((U64 (x % y)) : Value) = U64 (remuW x y) := congrArg U64 (by unfold remuW; simp only [*, Bool.false_eq_true, if_false, if_true])
  exact ⟨_, Ro G G, hfin, Mod.refl _ _⟩
theorem mul64_spec (x y : BitVec 64) (w : World) : Cx 132 #[U64 x, U64 y] w (.tuple #[U64 (hiW x y), U64 (x * y)]) := by
 refine Co func132 G G ?_
 refine Sr (Ae (U64 0#64) (Ae (U64 0#64) (Ni (Sr (Me (U64 x) (Bn (vy := U64 4294967295#64) G G BinR.andU64 (Ae (U64 ((x &&& 4294967295#64))) (Ni (Sr (Me (U64 x) (Bn (vy := .int .u64 ((32 : Nat) : Int)) G G BinR.shrU64 (Ae (U64 ((x >>> 32))) (Ni (Sr (Me (U64 y) (Bn (vy := U64 4294967295#64) G G BinR.andU64 (Ae (U64 ((y &&& 4294967295#64))) (Ni (Sq ?_)))))))))))))))))))
 refine Rg (Me (U64 y) (Bn (vy := .int .u64 ((32 : Nat) : Int)) G G BinR.shrU64 (Ae (U64 ((y >>> 32))) (Ni (Sr (Me (U64 ((x &&& 4294967295#64))) (Me (U64 ((y &&& 4294967295#64))) (Bn G G BinR.mulU64 (Ae (U64 (((x &&& 4294967295#64) * (y &&& 4294967295#64)))) (Ni (Sr (Me (U64 ((x >>> 32))) (Me (U64 ((y &&& 4294967295#64))) (Bn G G BinR.mulU64 (Me (U64 (((x &&& 4294967295#64) * (y &&& 4294967295#64)))) (Bn (vy := .int .u64 ((32 : Nat) : Int)) G G BinR.shrU64 (Bn G G BinR.addU64 (Ae (U64 ((((x >>> 32) * (y &&& 4294967295#64)) + (((x &&& 4294967295#64) * (y &&& 4294967295#64)) >>> 32)))) (Ni (Sr ?_))))))))))))))))))))
 refine Me (U64 ((((x >>> 32) * (y &&& 4294967295#64)) + (((x &&& 4294967295#64) * (y &&& 4294967295#64)) >>> 32)))) (Bn (vy := U64 4294967295#64) G G BinR.andU64 (Ae (U64 (((((x >>> 32) * (y &&& 4294967295#64)) + (((x &&& 4294967295#64) * (y &&& 4294967295#64)) >>> 32)) &&& 4294967295#64))) (Ni (Sr (Me (U64 ((((x >>> 32) * (y &&& 4294967295#64)) + (((x &&& 4294967295#64) * (y &&& 4294967295#64)) >>> 32)))) (Bn (vy := .int .u64 ((32 : Nat) : Int)) G G BinR.shrU64 (Ae (U64 (((((x >>> 32) * (y &&& 4294967295#64)) + (((x &&& 4294967295#64) * (y &&& 4294967295#64)) >>> 32)) >>> 32))) (Ni (Sr (Me (U64 (((((x >>> 32) * (y &&& 4294967295#64)) + (((x &&& 4294967295#64) * (y &&& 4294967295#64)) >>> 32)) &&& 4294967295#64))) (Me (U64 ((x &&& 4294967295#64))) (Me (U64 ((y >>> 32))) (Bn G G BinR.mulU64 (Bn G G BinR.addU64 (Ae (U64 ((((((x >>> 32) * (y &&& 4294967295#64)) + (((x &&& 4294967295#64) * (y &&& 4294967295#64)) >>> 32)) &&& 4294967295#64) + ((x &&& 4294967295#64) * (y >>> 32))))) (Ni (Sr (Me (U64 ((x >>> 32))) (Me (U64 ((y >>> 32))) (Bn G G BinR.mulU64 ?_))))))))))))))))))))
 refine Me (U64 (((((x >>> 32) * (y &&& 4294967295#64)) + (((x &&& 4294967295#64) * (y &&& 4294967295#64)) >>> 32)) >>> 32))) (Bn G G BinR.addU64 (Me (U64 ((((((x >>> 32) * (y &&& 4294967295#64)) + (((x &&& 4294967295#64) * (y &&& 4294967295#64)) >>> 32)) &&& 4294967295#64) + ((x &&& 4294967295#64) * (y >>> 32))))) (Bn (vy := .int .u64 ((32 : Nat) : Int)) G G BinR.shrU64 (Bn G G BinR.addU64 (Ae (U64 (((((x >>> 32) * (y >>> 32)) + ((((x >>> 32) * (y &&& 4294967295#64)) + (((x &&& 4294967295#64) * (y &&& 4294967295#64)) >>> 32)) >>> 32)) + ((((((x >>> 32) * (y &&& 4294967295#64)) + (((x &&& 4294967295#64) * (y &&& 4294967295#64)) >>> 32)) &&& 4294967295#64) + ((x &&& 4294967295#64) * (y >>> 32))) >>> 32)))) (Ni (Sr (Me (U64 x) (Me (U64 y) (Bn G G BinR.mulU64 (Ae (U64 ((x * y))) (Ni (WC.ret ?_)))))))))))))
 exact ⟨_, Rp G G G, G, Mod.refl _ _⟩
theorem mulhu_spec (x y : BitVec 64) (w : World) : Cx 125 #[U64 x, U64 y] w (U64 (hiW x y)) := by
 refine Co func125 G G ?_
 refine Sr (Ae (U64 0#64) (Ni (Sr (Me (U64 x) (Me (U64 y) (Ca (mul64_spec x y _) ?_))))))
 rintro _ wb ⟨rfl, eb⟩
 have E1 : Ext w wb := eb
 refine Me (.tuple #[U64 (hiW x y), U64 (x * y)]) (Et G G (Et G G (Ae (U64 (hiW x y)) (Ae (U64 (x * y)) (Ni (Sr (Me (U64 (hiW x y)) (Ae (U64 (hiW x y)) (Ni (WC.ret ?_))))))))))
 exact ⟨_, Ro G G, G, E1⟩
theorem mulhsu_spec (x y : BitVec 64) (w : World) : Cx 124 #[U64 x, U64 y] w (U64 (mulhsuW x y)) := by
 refine Co func124 G G ?_
 refine Sr (Ae (U64 0#64) (Ni (Sr (Me (U64 x) (Me (U64 y) (Ca (mulhu_spec x y _) ?_))))))
 rintro _ wb ⟨rfl, eb⟩
 have E1 : Ext w wb := eb
 refine Me (U64 y) (Me (U64 x) (Cv G (ConvR.u64i64 y39 y2) (Bn (vy := I64 0#64) G G BinR.lss64 (Ca (bit_spec (BitVec.slt x 0#64) _) ?_))))
 rintro _ wb12 ⟨rfl, eb12⟩
 have E2 := Mt E1 eb12
 refine Bn G G BinR.mulU64 (Bn G G BinR.subU64 (Ae (U64 ((hiW x y - (y * bitW (BitVec.slt x 0#64))))) (Ni (WC.ret ?_))))
 exact ⟨_, Ro G G, G, E2⟩
theorem mulh_spec (x y : BitVec 64) (w : World) : Cx 123 #[U64 x, U64 y] w (U64 (mulhW x y)) := by
 refine Co func123 G G ?_
 refine Sr (Ae (U64 0#64) (Ni (Sr (Me (U64 x) (Me (U64 y) (Ca (mulhsu_spec x y _) ?_))))))
 rintro _ wb ⟨rfl, eb⟩
 have E1 : Ext w wb := eb
 refine Me (U64 x) (Me (U64 y) (Cv G (ConvR.u64i64 y39 y2) (Bn (vy := I64 0#64) G G BinR.lss64 (Ca (bit_spec (BitVec.slt y 0#64) _) ?_))))
 rintro _ wb12 ⟨rfl, eb12⟩
 have E2 := Mt E1 eb12
 refine Bn G G BinR.mulU64 (Bn G G BinR.subU64 (Ae (U64 ((mulhsuW x y - (x * bitW (BitVec.slt y 0#64))))) (Ni (WC.ret ?_))))
 exact ⟨_, Ro G G, G, E2⟩
theorem sign_spec (x : BitVec 64) (m : Nat) (w : World) (hm : m ≤ 64) : Cx 74 #[U64 x, IN m] w (U64 (signW x m)) := by
 refine Co func74 G G ?_
 refine Sr (Ae (U64 0#64) (Ni (Sr (Me (U64 x) (Me (IN m) (Bn G G (BinR.subN (a := 64) (b := m) (by omega) (by omega)) (Bn G G (BinR.shlU64 (s := 64 - m)) (Cv G (ConvR.u64i64 y39 y2) (Me (IN m) (Bn G G (BinR.subN (a := 64) (b := m) (by omega) (by omega)) (Bn G G (BinR.shr64 (s := 64 - m)) (Cv G (ConvR.i64u64 y2 y39) (Ae (U64 (BitVec.sshiftRight (x <<< (64 - m)) (64 - m))) (Ni (WC.ret ?_)))))))))))))))
 exact ⟨_, Ro G G, G, Mod.refl _ _⟩
end Go.Proofs.N
end
section
set_option linter.unusedSimpArgs false
set_option linter.unusedVariables false
namespace Go.Proofs.N
open Go Go.Ux Go.Ux.Mach Go.Proofs
open Tryz
theorem ca104 : callable prog 104 = true := by kernel_rfl
theorem ca105 : callable prog 105 = true := by kernel_rfl
theorem ca106 : callable prog 106 = true := by kernel_rfl
theorem ca108 : callable prog 108 = true := by kernel_rfl
theorem ca109 : callable prog 109 = true := by kernel_rfl
theorem ca110 : callable prog 110 = true := by kernel_rfl
theorem ca111 : callable prog 111 = true := by kernel_rfl
theorem ca112 : callable prog 112 = true := by kernel_rfl
theorem ca115 : callable prog 115 = true := by kernel_rfl
theorem ca117 : callable prog 117 = true := by kernel_rfl
theorem ca118 : callable prog 118 = true := by kernel_rfl
theorem ca119 : callable prog 119 = true := by kernel_rfl
theorem ca120 : callable prog 120 = true := by kernel_rfl
theorem ca121 : callable prog 121 = true := by kernel_rfl
theorem ca122 : callable prog 122 = true := by kernel_rfl
theorem ca123 : callable prog 123 = true := by kernel_rfl
theorem ca129 : callable prog 129 = true := by kernel_rfl
theorem ca130 : callable prog 130 = true := by kernel_rfl
theorem ca131 : callable prog 131 = true := by kernel_rfl
def FunOk (w : World) (fv : Value) (F : BitVec 64 → BitVec 64 → BitVec 64) : Prop :=
 ∃ g cs, fv = .func (.func g) #[] cs ∧ callable prog g = true ∧ ∀ w', Ext w w' → ∀ x y, CallsR prog g (U64 x :: U64 y :: cs.toList).toArray w' (fun v w'' => v = U64 (F x y) ∧ Ext w' w'')
theorem FunOk.ext {w w' : World} {fv : Value} {F : BitVec 64 → BitVec 64 → BitVec 64} (h : FunOk w fv F) (m : Ext w w') : FunOk w' fv F := by
 obtain ⟨g, cs, e, hc, h⟩ := h
 exact ⟨g, cs, e, hc, fun w2 m2 => h w2 (m.trans m2)⟩
theorem FunOk.one {w : World} {fv : Value} {F : BitVec 64 → BitVec 64 → BitVec 64} (h : FunOk w fv F) : fv.oneCell' = true := by obtain ⟨g, cs, rfl, _⟩ := h; rfl
theorem add_fun (w : World) : FunOk w (.func (.func 104) #[] #[]) (fun x y => x + y) := ⟨104, #[], rfl, ca104, fun w' _ x y => add_spec x y w'⟩
theorem sub_fun (w : World) : FunOk w (.func (.func 105) #[] #[]) (fun x y => x - y) := ⟨105, #[], rfl, ca105, fun w' _ x y => sub_spec x y w'⟩
theorem slt_fun (w : World) : FunOk w (.func (.func 106) #[] #[]) (fun x y => bitW (BitVec.slt x y)) := ⟨106, #[], rfl, ca106, fun w' _ x y => slt_spec x y w'⟩
theorem sltu_fun (w : World) : FunOk w (.func (.func 108) #[] #[]) (fun x y => bitW (BitVec.ult x y)) := ⟨108, #[], rfl, ca108, fun w' _ x y => sltu_spec x y w'⟩
theorem xor_fun (w : World) : FunOk w (.func (.func 109) #[] #[]) (fun x y => x ^^^ y) := ⟨109, #[], rfl, ca109, fun w' _ x y => xor_spec x y w'⟩
theorem or_fun (w : World) : FunOk w (.func (.func 110) #[] #[]) (fun x y => x ||| y) := ⟨110, #[], rfl, ca110, fun w' _ x y => or_spec x y w'⟩
theorem and_fun (w : World) : FunOk w (.func (.func 111) #[] #[]) (fun x y => x &&& y) := ⟨111, #[], rfl, ca111, fun w' _ x y => and_spec x y w'⟩
theorem mul_fun (w : World) : FunOk w (.func (.func 112) #[] #[]) (fun x y => x * y) := ⟨112, #[], rfl, ca112, fun w' _ x y => mul_spec x y w'⟩
theorem sll_fun (w : World) : FunOk w (.func (.func 115) #[] #[]) sllW := ⟨115, #[], rfl, ca115, fun w' _ x y => sll_spec x y w'⟩
theorem srl_fun (w : World) : FunOk w (.func (.func 117) #[] #[]) srlW := ⟨117, #[], rfl, ca117, fun w' _ x y => srl_spec x y w'⟩
theorem sra_fun (w : World) : FunOk w (.func (.func 118) #[] #[]) sraW := ⟨118, #[], rfl, ca118, fun w' _ x y => sra_spec x y w'⟩
theorem div_fun (w : World) : FunOk w (.func (.func 119) #[] #[]) divW := ⟨119, #[], rfl, ca119, fun w' _ x y => div_spec x y w'⟩
theorem divu_fun (w : World) : FunOk w (.func (.func 120) #[] #[]) divuW := ⟨120, #[], rfl, ca120, fun w' _ x y => divu_spec x y w'⟩
theorem rem_fun (w : World) : FunOk w (.func (.func 121) #[] #[]) remW := ⟨121, #[], rfl, ca121, fun w' _ x y => rem_spec x y w'⟩
theorem remu_fun (w : World) : FunOk w (.func (.func 122) #[] #[]) remuW := ⟨122, #[], rfl, ca122, fun w' _ x y => remu_spec x y w'⟩
theorem mulh_fun (w : World) : FunOk w (.func (.func 123) #[] #[]) mulhW := ⟨123, #[], rfl, ca123, fun w' _ x y => mulh_spec x y w'⟩
theorem mulhsu_fun (w : World) : FunOk w (.func (.func 124) #[] #[]) mulhsuW := ⟨124, #[], rfl, ca124, fun w' _ x y => mulhsu_spec x y w'⟩
theorem mulhu_fun (w : World) : FunOk w (.func (.func 125) #[] #[]) hiW := ⟨125, #[], rfl, ca125, fun w' _ x y => mulhu_spec x y w'⟩
theorem signed1_spec (bf : Nat) (fv : Value) (F : BitVec 64 → BitVec 64 → BitVec 64) (x y : BitVec 64) (w : World) (hB : Blk w bf #[fv] 178) (hF : FunOk w fv F) : Cx 129 #[U64 x, U64 y, ptr bf 0] w (U64 (signedF F x y)) := by
 obtain ⟨g, cs, rfl, hcal, hcl⟩ := hF
 refine Co func129 G G ?_
 refine Sr (Ae (U64 0#64) (Ni (Sq (WC.draw (fun w_ => Ext w w_) 8 G mixed ?_))))
 intro wd_1 ed_1
 have R1 : Ext w wd_1 := ed_1
 have E2 : Ext w wd_1 := ed_1
 refine Tk 0 (.func (.func g) #[] cs) G G (fun _ hS => Le ((hB.ext hS).cell (j := 0) G) Ok) R1 (Tm 1 (U64 x) G G R1 (Tm 3 (U64 y) G G R1 (WA.one (i := 2) (m' := 15) (by kernel_rfl) G G (Ca (sign_spec x 32 _ (by decide)) ?_))))
 rintro _ wg8 ⟨rfl, eg8⟩
 have R7 := Mt R1 eg8
 have E8 := Mt E2 eg8
 refine WL.behind R7 (WA.one (i := 4) (m' := 31) (by kernel_rfl) G G (Ca (sign_spec y 32 _ (by decide)) ?_))
 rintro _ wg10 ⟨rfl, eg10⟩
 have R9 := Mt R7 eg10
 have E10 := Mt E8 eg10
 refine WL.behind R9 (WA.one (i := 5) (m' := 63) (by kernel_rfl) G G (WL.callV (fs := #[]) (cs := cs) G hcal G G (hcl _ E10 (signW x 32) (signW y 32)) ?_))
 rintro _ wc11 ⟨rfl, ec11⟩
 have R11 := Mt R9 ec11
 have E12 := Mt E10 ec11
 refine WL.behind R11 (WA.one (i := 6) (m' := 127) (by kernel_rfl) G G (Ca (sign_spec (F (signW x 32) (signW y 32)) 32 _ (by decide)) ?_))
 rintro _ wg12 ⟨rfl, eg12⟩
 have R13 := Mt R11 eg12
 have E14 := Mt E12 eg12
 refine WL.behind R13 (Tm 7 (U64 (signW (F (signW x 32) (signW y 32)) 32)) G G R13 (WA.done (by kernel_rfl) (WC.ret ?_)))
 exact ⟨_, Ro G G, G, E14⟩
theorem moved1_spec (bf : Nat) (fv : Value) (F : BitVec 64 → BitVec 64 → BitVec 64) (x y : BitVec 64) (w : World) (hB : Blk w bf #[fv] 178) (hF : FunOk w fv F) : Cx 130 #[U64 x, U64 y, ptr bf 0] w (U64 (movedF F x y)) := by
 obtain ⟨g, cs, rfl, hcal, hcl⟩ := hF
 refine Co func130 G G ?_
 refine Sr (Ae (U64 0#64) (Ni (Sr (Le (hB.cell (j := 0) G) (Me (U64 x) (Me (U64 y) (Bn (vy := U64 31#64) G G BinR.andU64 (WL.callV (fs := #[]) (cs := cs) G hcal G G (hcl _ (Mod.refl _ _) x (y &&& 31#64)) ?_))))))))
 rintro _ wc10 ⟨rfl, ec10⟩
 have E1 : Ext w wc10 := ec10
 refine Ae (U64 (F x (y &&& 31#64))) (Ni (WC.ret ?_))
 exact ⟨_, Ro G G, G, E1⟩
theorem unsigned1_spec (bf : Nat) (fv : Value) (F : BitVec 64 → BitVec 64 → BitVec 64) (x y : BitVec 64) (w : World) (hB : Blk w bf #[fv] 178) (hF : FunOk w fv F) : Cx 131 #[U64 x, U64 y, ptr bf 0] w (U64 (unsignedF F x y)) := by
 obtain ⟨g, cs, rfl, hcal, hcl⟩ := hF
 refine Co func131 G G ?_
 refine Sr (Ae (U64 0#64) (Ni (Sr (Le (hB.cell (j := 0) G) (Me (U64 x) (Bn (vy := U64 4294967295#64) G G BinR.andU64 (Me (U64 y) (Bn (vy := U64 4294967295#64) G G BinR.andU64 (WL.callV (fs := #[]) (cs := cs) G hcal G G (hcl _ (Mod.refl _ _) (x &&& 4294967295#64) (y &&& 4294967295#64)) ?_)))))))))
 rintro _ wc11 ⟨rfl, ec11⟩
 have E1 : Ext w wc11 := ec11
 refine Ca (sign_spec (F (x &&& 4294967295#64) (y &&& 4294967295#64)) 32 _ (by decide)) ?_
 rintro _ wg12 ⟨rfl, eg12⟩
 have E2 := Mt E1 eg12
 refine Ae (U64 (signW (F (x &&& 4294967295#64) (y &&& 4294967295#64)) 32)) (Ni (WC.ret ?_))
 exact ⟨_, Ro G G, G, E2⟩
theorem signed0 (fv : Value) (hv : fv.oneCell' = true) (w : World) : CallsR prog 113 #[fv] w (fun v w' => ∃ bf, v = .func (.func 129) #[] #[ptr bf 0] ∧ Blk w' bf #[fv] 178 ∧ Ext w w') := by
 refine Co func113 G G ?_
 refine Sr (WL.box (v := fv) G G ?_)
 intro b1 w1 n1
 have E1 : Ext w w1 := n1.ext
 have n1b : Blk w1 b1 #[fv] 178 := by have h := n1.blk; rwa [cells_of_one hv] at h
 refine Ae .nilFunc (Ni (Sr (WL.makeFunc (vs := []) (us := [ptr b1 0]) G G G (Ae (.func (.func 129) #[] #[ptr b1 0]) (Ni (WC.ret ?_))))))
 exact ⟨_, Ro G G, b1, G, n1b, E1⟩
theorem signed_spec (fv : Value) (F : BitVec 64 → BitVec 64 → BitVec 64) (w : World) (hF : FunOk w fv F) : CallsR prog 113 #[fv] w (fun v w' => FunOk w' v (signedF F) ∧ Ext w w') := by
 refine (signed0 fv hF.one w).mono ?_
 rintro v w' ⟨bf, rfl, hB, he⟩
 exact ⟨⟨129, #[ptr bf 0], G, ca129, fun w2 m x y => signed1_spec bf fv F x y w2 (hB.ext m) ((hF.ext he).ext m)⟩, he⟩
theorem moved0 (fv : Value) (hv : fv.oneCell' = true) (w : World) : CallsR prog 114 #[fv] w (fun v w' => ∃ bf, v = .func (.func 130) #[] #[ptr bf 0] ∧ Blk w' bf #[fv] 178 ∧ Ext w w') := by
 refine Co func114 G G ?_
 refine Sr (WL.box (v := fv) G G ?_)
 intro b1 w1 n1
 have E1 : Ext w w1 := n1.ext
 have n1b : Blk w1 b1 #[fv] 178 := by have h := n1.blk; rwa [cells_of_one hv] at h
 refine Ae .nilFunc (Ni (Sr (WL.makeFunc (vs := []) (us := [ptr b1 0]) G G G (Ae (.func (.func 130) #[] #[ptr b1 0]) (Ni (WC.ret ?_))))))
 exact ⟨_, Ro G G, b1, G, n1b, E1⟩
theorem moved_spec (fv : Value) (F : BitVec 64 → BitVec 64 → BitVec 64) (w : World) (hF : FunOk w fv F) : CallsR prog 114 #[fv] w (fun v w' => FunOk w' v (movedF F) ∧ Ext w w') := by
 refine (moved0 fv hF.one w).mono ?_
 rintro v w' ⟨bf, rfl, hB, he⟩
 exact ⟨⟨130, #[ptr bf 0], G, ca130, fun w2 m x y => moved1_spec bf fv F x y w2 (hB.ext m) ((hF.ext he).ext m)⟩, he⟩
theorem unsigned0 (fv : Value) (hv : fv.oneCell' = true) (w : World) : CallsR prog 116 #[fv] w (fun v w' => ∃ bf, v = .func (.func 131) #[] #[ptr bf 0] ∧ Blk w' bf #[fv] 178 ∧ Ext w w') := by
 refine Co func116 G G ?_
 refine Sr (WL.box (v := fv) G G ?_)
 intro b1 w1 n1
 have E1 : Ext w w1 := n1.ext
 have n1b : Blk w1 b1 #[fv] 178 := by have h := n1.blk; rwa [cells_of_one hv] at h
 refine Ae .nilFunc (Ni (Sr (WL.makeFunc (vs := []) (us := [ptr b1 0]) G G G (Ae (.func (.func 131) #[] #[ptr b1 0]) (Ni (WC.ret ?_))))))
 exact ⟨_, Ro G G, b1, G, n1b, E1⟩
theorem unsigned_spec (fv : Value) (F : BitVec 64 → BitVec 64 → BitVec 64) (w : World) (hF : FunOk w fv F) : CallsR prog 116 #[fv] w (fun v w' => FunOk w' v (unsignedF F) ∧ Ext w w') := by
 refine (unsigned0 fv hF.one w).mono ?_
 rintro v w' ⟨bf, rfl, hB, he⟩
 exact ⟨⟨131, #[ptr bf 0], G, ca131, fun w2 m x y => unsigned1_spec bf fv F x y w2 (hB.ext m) ((hF.ext he).ext m)⟩, he⟩
end Go.Proofs.N
end
