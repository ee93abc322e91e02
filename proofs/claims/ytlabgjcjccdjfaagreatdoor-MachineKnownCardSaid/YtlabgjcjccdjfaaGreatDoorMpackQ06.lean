/- Steps of the proof, packed by program: UxMapF McA3 McA5 McA6 McA7 McS9 McT1. -/
import Derived.Test.YtlabgjcjccdjfaaGreatDoorRows
import Derived.Test.YtlabgjcjccdjfaaGreatDoorMpackQ02
import Derived.Test.YtlabgjcjccdjfaaGreatDoorMpackQ05
set_option linter.unusedVariables false
set_option linter.unusedSimpArgs false
set_option linter.unnecessarySimpa false
set_option maxRecDepth 100000
section
namespace Go.Ux
open Go
def getF (l : List (Nat × Nat)) (k : Nat) : Option Nat := match l with
 | [] => none
 | (a, g) :: r => if a == k then some g else getF r k
abbrev KB (k : Nat) : Value := .int .u8 ((k : Nat) : Int)
abbrev FV (g : Nat) : Value := .func (.func g) #[] #[]
def MapF (w : World) (r : Nat) (l : List (Nat × Nat)) : Prop :=
 ∃ es clock, w.heap[r]? = some (.map es clock) ∧ es.toList.map (fun e => (e.key, e.val)) = l.map fun p => (KB p.1, FV p.2)
theorem findNow_F (k : Nat) : ∀ (es : List MapEntry) (l : List (Nat × Nat)) (i : Nat), es.map (fun e => (e.key, e.val)) = l.map (fun p => (KB p.1, FV p.2)) →
  (Instr.findNow (.int .u8) (KB k) es i = some none ∧ getF l k = none) ∨ ∃ j g, Instr.findNow (.int .u8) (KB k) es i = some (some (j, FV g)) ∧ getF l k = some g
 | [], [], _, _ => .inl ⟨rfl, rfl⟩
 | [], _ :: _, _, h => by cases h
 | _ :: _, [], _, h => by cases h
 | e :: es, (a, c) :: l, i, h => by
  simp only [List.map_cons, List.cons.injEq, Prod.mk.injEq] at h
  obtain ⟨⟨hk, hv⟩, hr⟩ := h
  have hs : Instr.sameNow (.int .u8) (KB k) e.key = some (k == a) := by
   rw [hk]
   have : (((k : Nat) : Int) == ((a : Nat) : Int)) = (k == a) := by
    rw [Bool.eq_iff_iff, beq_iff_eq, beq_iff_eq]; omega
   simp only [Instr.sameNow, if_true, this]
  by_cases hka : k = a
  ·subst hka
   exact .inr ⟨i, c, by simp only [Instr.findNow, hs, beq_self_eq_true, hv], by simp [getF]⟩
  ·have hne : (a == k) = false := by rw [beq_eq_false_iff_ne]; exact fun e => hka e.symm
   have hne' : (k == a) = false := by rw [beq_eq_false_iff_ne]; exact hka
   have hf : Instr.findNow (.int .u8) (KB k) (e :: es) i = Instr.findNow (.int .u8) (KB k) es (i + 1) := by simp only [Instr.findNow, hs, hne']
   rcases findNow_F k es l (i + 1) hr with ⟨h1, h2⟩ | ⟨j, g, h1, h2⟩
   ·exact .inl ⟨hf.trans h1, by simp [getF, hne, h2]⟩
   ·exact .inr ⟨j, g, hf.trans h1, by simp [getF, hne, h2]⟩
section ops
variable {P : Program} {ops : Array Oper} {l : List Oper} {n : Nat} {f : Fr} {w : World} {Q : Exit → Fr → World → Prop}
variable {d : Nat} {ty : TypeId} {pos : String} {aft : Array Edge}
theorem isKey_KB (k : Nat) : MapKept.IsKey (.int .u8) (KB k) := by simp [MapKept.IsKey]
theorem WL.lookupF {t kt et r k : Nat} {x y : Operand} {ls : List (Nat × Nat)} {v : Value} (ht : P.underlying t = some (.map kt et)) (hk : P.underlying kt = some (.int .u8)) (hz : ∀ w : World, (zeroValue et).run P w = .ok .nilFunc w)
  (hx : ev f x = .map (some r)) (hy : ev f y = KB k) (hm : MapF w r ls) (hv : (match getF ls k with | some g => FV g | none => .nilFunc) = v) (hd : decide (d < n) = true) (kk : WL P ops l n (upd f d v) w Q) :
  WL P ops (⟨some d, .lookup t x y false, ty, pos, aft, none⟩ :: l) n f w Q := by
 obtain ⟨es, clock, hb, he⟩ := hm
 refine WL.val G hd (v := v) (w' := w) ?_ kk
 have hc := MapKept.run_checkKey (P := P) (w := w) hk (isKey_KB k) es.isEmpty 9999
 have hrun : (Instr.lookup t (.map (some r)) (KB k) false).run P w = .ok v w := by
  rcases findNow_F k es.toList ls 0 he with ⟨h1, h2⟩ | ⟨j, g, h1, h2⟩
  ·rw [h2] at hv; subst hv
   simp [Instr.lookup, run_underlying ht, MapKept.run_getObj_map hb, hc, MapKept.run_findKey hk h1, hz, Result.andThen]
  ·rw [h2] at hv; subst hv
   simp [Instr.lookup, run_underlying ht, MapKept.run_getObj_map hb, hc, MapKept.run_findKey hk h1, Result.andThen]
 simp only [execOp, hx, hy]
 rw [Sem.run_bind, hrun]; simp [Result.andThen]
theorem WL.insertF {t kt et r k g : Nat} {x y z : Operand} {ls : List (Nat × Nat)} (ht : P.underlying t = some (.map kt et)) (hk : P.underlying kt = some (.int .u8))
  (hx : ev f x = .map (some r)) (hy : ev f y = KB k) (hz : ev f z = FV g) (hm : MapF w r ls) (hn : getF ls k = none) (kk : ∀ w', MapF w' r (ls ++ [(k, g)]) → Mod (· = r) w w' → WL P ops l n f w' Q) :
  WL P ops (⟨none, .insert t x y z, ty, pos, aft, none⟩ :: l) n f w Q := by
 obtain ⟨es, clock, hb, he⟩ := hm
 have hc := MapKept.run_checkKey (P := P) (w := w) hk (isKey_KB k) false 9999
 rcases findNow_F k es.toList ls 0 he with ⟨h1, _⟩ | ⟨j, g', h1, h2⟩
 ·refine WL.skp (w' := { w with heap := w.heap.setIfInBounds r (.map (es.push { key := KB k, val := FV g, born := clock }) (clock + 1)) }) G G ?_
   (kk _ ⟨_, _, (MapKept.heap_set hb).1, by simp [he]⟩ (setObj_mod hb))
  have : (Instr.mapUpdate t (.map (some r)) (KB k) (FV g)).run P w = .ok () { w with heap := w.heap.setIfInBounds r (.map (es.push { key := KB k, val := FV g, born := clock }) (clock + 1)) } := by
   simp [Instr.mapUpdate, run_underlying ht, MapKept.run_getObj_map hb, hc, MapKept.run_findKey hk h1, MapKept.run_setObj_map _ hb, Result.andThen]
  simp only [execOp, hx, hy, hz]
  rw [Sem.run_bind, this]; simp [Result.andThen]
 ·rw [hn] at h2; cases h2
theorem WL.makeMapF {t : Nat} (hd : decide (d < n) = true) (kk : ∀ r w', MapF w' r [] → Ext w w' → r = w.heap.size → WL P ops l n (upd f d (.map (some r))) w' Q) :
  WL P ops (⟨some d, .makeMap t none, ty, pos, aft, none⟩ :: l) n f w Q := by
 refine WL.val G hd (v := .map (some w.heap.size)) (w' := w.alloc (.map #[] 0)) ?_ (kk _ _ ⟨#[], 0, heap_alloc_new w _, G⟩ (alloc_ext w _) G)
 simp only [execOp, Option.map_none]
 rw [Sem.run_bind, run_makeMap_plain]; simp [Result.andThen]
end ops
end Go.Ux
end
section
set_option linter.unusedSimpArgs false
set_option linter.unusedVariables false
namespace Go.Proofs.N
open Go Go.Ux Go.Ux.Mach Go.Proofs
open Tryz
theorem zf178 : ∀ w : World, (zeroValue 178).run prog w = .ok .nilFunc w := fun _ => by kernel_rfl
def lookM (k : Nat) : Value := match getF [(33, 115), (28, 115), (37, 117), (29, 117), (38, 118), (30, 118), (51, 123), (52, 124), (53, 125), (54, 119), (55, 120), (56, 121), (57, 122)] k with | some g => FV g | none => .nilFunc
theorem reckons_z (z : BitVec 8) (hz : ∀ c ∈ [22#8, 23#8, 24#8, 25#8, 26#8, 27#8, 31#8, 32#8, 34#8, 35#8, 36#8, 39#8, 40#8, 41#8, 42#8, 43#8, 44#8, 45#8, 46#8, 47#8, 48#8, 49#8, 50#8, 58#8, 59#8, 60#8, 61#8, 62#8], (z == c) = false) (w : World) : Cx 88 #[U8 z] w (lookM z.toNat) := by
 refine Co func88 G G ?_
 refine Sr (Ae .nilFunc (Ni (Sq (Sr (Me (U8 z) (Ni (Bk (Sq (Sq (Nz 31 hz (Nz 22 hz (Sq (Nz 32 hz (Sq (Sq (Nz 34 hz (Nz 23 hz (Sq (Sq (Nz 35 hz (Nz 24 hz ?_)))))))))))))))))))))
 refine Sq (Sq (Nz 36 hz (Nz 25 hz (Sq (Sq (Nz 39 hz (Nz 26 hz (Sq (Sq (Nz 40 hz (Nz 27 hz (Sq (Nz 50 hz (Sq (Sq (Nz 45 hz (Nz 41 hz (Sq (Nz 46 hz (Sq (Nz 58 hz (Sq (Sq ?_)))))))))))))))))))))))
 refine Nz 47 hz (Nz 42 hz (Sq (Sq (Nz 48 hz (Nz 43 hz (Sq (Sq (Nz 49 hz (Nz 44 hz (Sq (Nz 59 hz (Sq (Nz 60 hz (Sq (Nz 61 hz (Sq (Nz 62 hz (WC.skip (Sr (WL.makeMapF G ?_))))))))))))))))))))
 intro r wm hM0 e67 hr
 have hrw : w.heap.size ≤ r := by have := Mod.size (Mod.refl (fun _ => False) w); omega
 have E1 : Ext w wm := e67
 refine WL.insertF (k := 33) (g := 115) (ls := []) y204 y5 G G G hM0 (by decide) ?_
 intro wi0 hM1 mi0
 have Ei0 : Ext w wi0 := Mod.then E1 mi0 (fun i hi (e : i = r) => absurd hi (by omega))
 refine WL.insertF (k := 28) (g := 115) (ls := [(33, 115)]) y204 y5 G G G hM1 (by decide) ?_
 intro wi1 hM2 mi1
 have Ei1 : Ext w wi1 := Mod.then Ei0 mi1 (fun i hi (e : i = r) => absurd hi (by omega))
 refine WL.insertF (k := 37) (g := 117) (ls := [(33, 115), (28, 115)]) y204 y5 G G G hM2 (by decide) ?_
 intro wi2 hM3 mi2
 have Ei2 : Ext w wi2 := Mod.then Ei1 mi2 (fun i hi (e : i = r) => absurd hi (by omega))
 refine WL.insertF (k := 29) (g := 117) (ls := [(33, 115), (28, 115), (37, 117)]) y204 y5 G G G hM3 (by decide) ?_
 intro wi3 hM4 mi3
 have Ei3 : Ext w wi3 := Mod.then Ei2 mi3 (fun i hi (e : i = r) => absurd hi (by omega))
 refine WL.insertF (k := 38) (g := 118) (ls := [(33, 115), (28, 115), (37, 117), (29, 117)]) y204 y5 G G G hM4 (by decide) ?_
 intro wi4 hM5 mi4
 have Ei4 : Ext w wi4 := Mod.then Ei3 mi4 (fun i hi (e : i = r) => absurd hi (by omega))
 refine WL.insertF (k := 30) (g := 118) (ls := [(33, 115), (28, 115), (37, 117), (29, 117), (38, 118)]) y204 y5 G G G hM5 (by decide) ?_
 intro wi5 hM6 mi5
 have Ei5 : Ext w wi5 := Mod.then Ei4 mi5 (fun i hi (e : i = r) => absurd hi (by omega))
 refine WL.insertF (k := 51) (g := 123) (ls := [(33, 115), (28, 115), (37, 117), (29, 117), (38, 118), (30, 118)]) y204 y5 G G G hM6 (by decide) ?_
 intro wi6 hM7 mi6
 have Ei6 : Ext w wi6 := Mod.then Ei5 mi6 (fun i hi (e : i = r) => absurd hi (by omega))
 refine WL.insertF (k := 52) (g := 124) (ls := [(33, 115), (28, 115), (37, 117), (29, 117), (38, 118), (30, 118), (51, 123)]) y204 y5 G G G hM7 (by decide) ?_
 intro wi7 hM8 mi7
 have Ei7 : Ext w wi7 := Mod.then Ei6 mi7 (fun i hi (e : i = r) => absurd hi (by omega))
 refine WL.insertF (k := 53) (g := 125) (ls := [(33, 115), (28, 115), (37, 117), (29, 117), (38, 118), (30, 118), (51, 123), (52, 124)]) y204 y5 G G G hM8 (by decide) ?_
 intro wi8 hM9 mi8
 have Ei8 : Ext w wi8 := Mod.then Ei7 mi8 (fun i hi (e : i = r) => absurd hi (by omega))
 refine WL.insertF (k := 54) (g := 119) (ls := [(33, 115), (28, 115), (37, 117), (29, 117), (38, 118), (30, 118), (51, 123), (52, 124), (53, 125)]) y204 y5 G G G hM9 (by decide) ?_
 intro wi9 hM10 mi9
 have Ei9 : Ext w wi9 := Mod.then Ei8 mi9 (fun i hi (e : i = r) => absurd hi (by omega))
 refine WL.insertF (k := 55) (g := 120) (ls := [(33, 115), (28, 115), (37, 117), (29, 117), (38, 118), (30, 118), (51, 123), (52, 124), (53, 125), (54, 119)]) y204 y5 G G G hM10 (by decide) ?_
 intro wi10 hM11 mi10
 have Ei10 : Ext w wi10 := Mod.then Ei9 mi10 (fun i hi (e : i = r) => absurd hi (by omega))
 refine WL.insertF (k := 56) (g := 121) (ls := [(33, 115), (28, 115), (37, 117), (29, 117), (38, 118), (30, 118), (51, 123), (52, 124), (53, 125), (54, 119), (55, 120)]) y204 y5 G G G hM11 (by decide) ?_
 intro wi11 hM12 mi11
 have Ei11 : Ext w wi11 := Mod.then Ei10 mi11 (fun i hi (e : i = r) => absurd hi (by omega))
 refine WL.insertF (k := 57) (g := 122) (ls := [(33, 115), (28, 115), (37, 117), (29, 117), (38, 118), (30, 118), (51, 123), (52, 124), (53, 125), (54, 119), (55, 120), (56, 121)]) y204 y5 G G G hM12 (by decide) ?_
 intro wi12 hM13 mi12
 have Ei12 : Ext w wi12 := Mod.then Ei11 mi12 (fun i hi (e : i = r) => absurd hi (by omega))
 refine Me (.map (some r)) (Ae (.map (some r)) (Ni (Sr (Me (.map (some r)) (Me (U8 z) (WL.lookupF (k := z.toNat) (ls := [(33, 115), (28, 115), (37, 117), (29, 117), (38, 118), (30, 118), (51, 123), (52, 124), (53, 125), (54, 119), (55, 120), (56, 121), (57, 122)]) (v := lookM z.toNat) y204 y5 zf178 G G hM13 G G (Ae (lookM z.toNat) (Ni (WC.ret ?_)))))))))
 exact ⟨_, Ro G G, G, Ei12⟩
theorem reckons_31 (w : World) : CallsR prog 88 #[U8 31#8] w (fun v w' => FunOk w' v (fun x y => x + y) ∧ Ext w w') := by
 refine Co func88 G G ?_
 refine Sr (Ae .nilFunc (Ni (Sq (Sr (Me (U8 31#8) (Ni (Bk (Sq (Sq (Eu 31 (WC.skip (Ct G (Sr (Ae (.func (.func 104) #[] #[]) (Ni (WC.ret ?_))))))))))))))))
 exact ⟨_, Ro G G, add_fun _, Mod.refl _ _⟩
theorem reckons_32 (w : World) : CallsR prog 88 #[U8 32#8] w (fun v w' => FunOk w' v (fun x y => x - y) ∧ Ext w w') := by
 refine Co func88 G G ?_
 refine Sr (Ae .nilFunc (Ni (Sq (Sr (Me (U8 32#8) (Ni (Bk (Sq (Sq (Nu 31 (Nu 22 (Sq (Eu 32 (Sr (Ae (.func (.func 105) #[] #[]) (Ni ?_))))))))))))))))
 refine WC.ret ?_
 exact ⟨_, Ro G G, sub_fun _, Mod.refl _ _⟩
theorem reckons_50 (w : World) : CallsR prog 88 #[U8 50#8] w (fun v w' => FunOk w' v (fun x y => x * y) ∧ Ext w w') := by
 refine Co func88 G G ?_
 refine Sr (Ae .nilFunc (Ni (Sq (Sr (Me (U8 50#8) (Ni (Bk (Sq (Sq (Nu 31 (Nu 22 (Sq (Nu 32 (Sq (Sq (Nu 34 (Nu 23 (Sq (Sq (Nu 35 (Nu 24 ?_)))))))))))))))))))))
 refine Sq (Sq (Nu 36 (Nu 25 (Sq (Sq (Nu 39 (Nu 26 (Sq (Sq (Nu 40 (Nu 27 (Sq (Eu 50 (Sr (Ae (.func (.func 112) #[] #[]) (Ni (WC.ret ?_)))))))))))))))))
 exact ⟨_, Ro G G, mul_fun _, Mod.refl _ _⟩
theorem reckons_11 (w : World) : CallsR prog 88 #[U8 11#8] w (fun v w' => v = .nilFunc ∧ Ext w w') := (reckons_z 11#8 (by decide) w).mono fun _ _ h => ⟨h.1, h.2⟩
theorem reckons_12 (w : World) : CallsR prog 88 #[U8 12#8] w (fun v w' => v = .nilFunc ∧ Ext w w') := (reckons_z 12#8 (by decide) w).mono fun _ _ h => ⟨h.1, h.2⟩
theorem reckons_13 (w : World) : CallsR prog 88 #[U8 13#8] w (fun v w' => v = .nilFunc ∧ Ext w w') := (reckons_z 13#8 (by decide) w).mono fun _ _ h => ⟨h.1, h.2⟩
theorem reckons_14 (w : World) : CallsR prog 88 #[U8 14#8] w (fun v w' => v = .nilFunc ∧ Ext w w') := (reckons_z 14#8 (by decide) w).mono fun _ _ h => ⟨h.1, h.2⟩
theorem reckons_15 (w : World) : CallsR prog 88 #[U8 15#8] w (fun v w' => v = .nilFunc ∧ Ext w w') := (reckons_z 15#8 (by decide) w).mono fun _ _ h => ⟨h.1, h.2⟩
theorem reckons_16 (w : World) : CallsR prog 88 #[U8 16#8] w (fun v w' => v = .nilFunc ∧ Ext w w') := (reckons_z 16#8 (by decide) w).mono fun _ _ h => ⟨h.1, h.2⟩
theorem reckons_17 (w : World) : CallsR prog 88 #[U8 17#8] w (fun v w' => v = .nilFunc ∧ Ext w w') := (reckons_z 17#8 (by decide) w).mono fun _ _ h => ⟨h.1, h.2⟩
theorem reckons_18 (w : World) : CallsR prog 88 #[U8 18#8] w (fun v w' => v = .nilFunc ∧ Ext w w') := (reckons_z 18#8 (by decide) w).mono fun _ _ h => ⟨h.1, h.2⟩
theorem reckons_19 (w : World) : CallsR prog 88 #[U8 19#8] w (fun v w' => v = .nilFunc ∧ Ext w w') := (reckons_z 19#8 (by decide) w).mono fun _ _ h => ⟨h.1, h.2⟩
theorem reckons_20 (w : World) : CallsR prog 88 #[U8 20#8] w (fun v w' => v = .nilFunc ∧ Ext w w') := (reckons_z 20#8 (by decide) w).mono fun _ _ h => ⟨h.1, h.2⟩
theorem reckons_21 (w : World) : CallsR prog 88 #[U8 21#8] w (fun v w' => v = .nilFunc ∧ Ext w w') := (reckons_z 21#8 (by decide) w).mono fun _ _ h => ⟨h.1, h.2⟩
theorem reckons_22 (w : World) : CallsR prog 88 #[U8 22#8] w (fun v w' => FunOk w' v (fun x y => x + y) ∧ Ext w w') := by
 refine Co func88 G G ?_
 refine Sr (Ae .nilFunc (Ni (Sq (Sr (Me (U8 22#8) (Ni (Bk (Sq (Sq (Nu 31 (Eu 22 (Sr (Ae (.func (.func 104) #[] #[]) (Ni (WC.ret ?_)))))))))))))))
 exact ⟨_, Ro G G, add_fun _, Mod.refl _ _⟩
theorem reckons_23 (w : World) : CallsR prog 88 #[U8 23#8] w (fun v w' => FunOk w' v (fun x y => bitW (BitVec.slt x y)) ∧ Ext w w') := by
 refine Co func88 G G ?_
 refine Sr (Ae .nilFunc (Ni (Sq (Sr (Me (U8 23#8) (Ni (Bk (Sq (Sq (Nu 31 (Nu 22 (Sq (Nu 32 (Sq (Sq (Nu 34 (Eu 23 ?_)))))))))))))))))
 refine Sr (Ae (.func (.func 106) #[] #[]) (Ni (WC.ret ?_)))
 exact ⟨_, Ro G G, slt_fun _, Mod.refl _ _⟩
theorem reckons_24 (w : World) : CallsR prog 88 #[U8 24#8] w (fun v w' => FunOk w' v (fun x y => bitW (BitVec.ult x y)) ∧ Ext w w') := by
 refine Co func88 G G ?_
 refine Sr (Ae .nilFunc (Ni (Sq (Sr (Me (U8 24#8) (Ni (Bk (Sq (Sq (Nu 31 (Nu 22 (Sq (Nu 32 (Sq (Sq (Nu 34 (Nu 23 (Sq (Sq (Nu 35 (Rg ?_)))))))))))))))))))))
 refine Bt (vy := U8 24#8) G G BinR.eqlU8 (by decide) (Ae (.bool true) (Ni (Ct G (Sr (Ae (.func (.func 108) #[] #[]) (Ni (WC.ret ?_)))))))
 exact ⟨_, Ro G G, sltu_fun _, Mod.refl _ _⟩
theorem reckons_25 (w : World) : CallsR prog 88 #[U8 25#8] w (fun v w' => FunOk w' v (fun x y => x ^^^ y) ∧ Ext w w') := by
 refine Co func88 G G ?_
 refine Sr (Ae .nilFunc (Ni (Sq (Sr (Me (U8 25#8) (Ni (Bk (Sq (Sq (Nu 31 (Nu 22 (Sq (Nu 32 (Sq (Sq (Nu 34 (Nu 23 (Sq (Sq (Nu 35 (Nu 24 ?_)))))))))))))))))))))
 refine Sq (Sq (Nu 36 (Eu 25 (Sr (Ae (.func (.func 109) #[] #[]) (Ni (WC.ret ?_)))))))
 exact ⟨_, Ro G G, xor_fun _, Mod.refl _ _⟩
theorem reckons_26 (w : World) : CallsR prog 88 #[U8 26#8] w (fun v w' => FunOk w' v (fun x y => x ||| y) ∧ Ext w w') := by
 refine Co func88 G G ?_
 refine Sr (Ae .nilFunc (Ni (Sq (Sr (Me (U8 26#8) (Ni (Bk (Sq (Sq (Nu 31 (Nu 22 (Sq (Nu 32 (Sq (Sq (Nu 34 (Nu 23 (Sq (Sq (Nu 35 (Nu 24 ?_)))))))))))))))))))))
 refine Sq (Sq (Nu 36 (Nu 25 (Sq (Sq (Nu 39 (Eu 26 (Sr (Ae (.func (.func 110) #[] #[]) (Ni (WC.ret ?_)))))))))))
 exact ⟨_, Ro G G, or_fun _, Mod.refl _ _⟩
theorem reckons_27 (w : World) : CallsR prog 88 #[U8 27#8] w (fun v w' => FunOk w' v (fun x y => x &&& y) ∧ Ext w w') := by
 refine Co func88 G G ?_
 refine Sr (Ae .nilFunc (Ni (Sq (Sr (Me (U8 27#8) (Ni (Bk (Sq (Sq (Nu 31 (Nu 22 (Sq (Nu 32 (Sq (Sq (Nu 34 (Nu 23 (Sq (Sq (Nu 35 (Nu 24 ?_)))))))))))))))))))))
 refine Sq (Sq (Nu 36 (Nu 25 (Sq (Sq (Nu 39 (Nu 26 (Sq (Sq (Nu 40 (Eu 27 (Sr (Ae (.func (.func 111) #[] #[]) (Ni (WC.ret ?_)))))))))))))))
 exact ⟨_, Ro G G, and_fun _, Mod.refl _ _⟩
theorem reckons_28 (w : World) : CallsR prog 88 #[U8 28#8] w (fun v w' => FunOk w' v sllW ∧ Ext w w') := (reckons_z 28#8 (by decide) w).mono fun _ _ h => ⟨h.1 ▸ sll_fun _, h.2⟩
theorem reckons_29 (w : World) : CallsR prog 88 #[U8 29#8] w (fun v w' => FunOk w' v srlW ∧ Ext w w') := (reckons_z 29#8 (by decide) w).mono fun _ _ h => ⟨h.1 ▸ srl_fun _, h.2⟩
theorem reckons_30 (w : World) : CallsR prog 88 #[U8 30#8] w (fun v w' => FunOk w' v sraW ∧ Ext w w') := (reckons_z 30#8 (by decide) w).mono fun _ _ h => ⟨h.1 ▸ sra_fun _, h.2⟩
theorem reckons_33 (w : World) : CallsR prog 88 #[U8 33#8] w (fun v w' => FunOk w' v sllW ∧ Ext w w') := (reckons_z 33#8 (by decide) w).mono fun _ _ h => ⟨h.1 ▸ sll_fun _, h.2⟩
theorem reckons_34 (w : World) : CallsR prog 88 #[U8 34#8] w (fun v w' => FunOk w' v (fun x y => bitW (BitVec.slt x y)) ∧ Ext w w') := by
 refine Co func88 G G ?_
 refine Sr (Ae .nilFunc (Ni (Sq (Sr (Me (U8 34#8) (Ni (Bk (Sq (Sq (Nu 31 (Nu 22 (Sq (Nu 32 (Sq (Sq (Eu 34 (WC.skip ?_)))))))))))))))))
 refine Ct G (Sr (Ae (.func (.func 106) #[] #[]) (Ni (WC.ret ?_))))
 exact ⟨_, Ro G G, slt_fun _, Mod.refl _ _⟩
theorem reckons_35 (w : World) : CallsR prog 88 #[U8 35#8] w (fun v w' => FunOk w' v (fun x y => bitW (BitVec.ult x y)) ∧ Ext w w') := by
 refine Co func88 G G ?_
 refine Sr (Ae .nilFunc (Ni (Sq (Sr (Me (U8 35#8) (Ni (Bk (Sq (Sq (Nu 31 (Nu 22 (Sq (Nu 32 (Sq (Sq (Nu 34 (Nu 23 (Sq (Sr (Bt (vy := U8 35#8) G G BinR.eqlU8 (by decide) ?_))))))))))))))))))))
 refine Ae (.bool true) (Ni (Ct G (WC.skip (Ct G (Sr (Ae (.func (.func 108) #[] #[]) (Ni (WC.ret ?_))))))))
 exact ⟨_, Ro G G, sltu_fun _, Mod.refl _ _⟩
theorem reckons_36 (w : World) : CallsR prog 88 #[U8 36#8] w (fun v w' => FunOk w' v (fun x y => x ^^^ y) ∧ Ext w w') := by
 refine Co func88 G G ?_
 refine Sr (Ae .nilFunc (Ni (Sq (Sr (Me (U8 36#8) (Ni (Bk (Sq (Sq (Nu 31 (Nu 22 (Sq (Nu 32 (Sq (Sq (Nu 34 (Nu 23 (Sq (Sq (Nu 35 (Nu 24 ?_)))))))))))))))))))))
 refine Sq (Sq (Eu 36 (WC.skip (Ct G (Sr (Ae (.func (.func 109) #[] #[]) (Ni (WC.ret ?_))))))))
 exact ⟨_, Ro G G, xor_fun _, Mod.refl _ _⟩
theorem reckons_37 (w : World) : CallsR prog 88 #[U8 37#8] w (fun v w' => FunOk w' v srlW ∧ Ext w w') := (reckons_z 37#8 (by decide) w).mono fun _ _ h => ⟨h.1 ▸ srl_fun _, h.2⟩
theorem reckons_38 (w : World) : CallsR prog 88 #[U8 38#8] w (fun v w' => FunOk w' v sraW ∧ Ext w w') := (reckons_z 38#8 (by decide) w).mono fun _ _ h => ⟨h.1 ▸ sra_fun _, h.2⟩
theorem reckons_39 (w : World) : CallsR prog 88 #[U8 39#8] w (fun v w' => FunOk w' v (fun x y => x ||| y) ∧ Ext w w') := by
 refine Co func88 G G ?_
 refine Sr (Ae .nilFunc (Ni (Sq (Sr (Me (U8 39#8) (Ni (Bk (Sq (Sq (Nu 31 (Nu 22 (Sq (Nu 32 (Sq (Sq (Nu 34 (Nu 23 (Sq (Sq (Nu 35 (Nu 24 ?_)))))))))))))))))))))
 refine Sq (Sq (Nu 36 (Nu 25 (Sq (Sq (Eu 39 (WC.skip (Ct G (Sr (Ae (.func (.func 110) #[] #[]) (Ni (WC.ret ?_))))))))))))
 exact ⟨_, Ro G G, or_fun _, Mod.refl _ _⟩
theorem reckons_40 (w : World) : CallsR prog 88 #[U8 40#8] w (fun v w' => FunOk w' v (fun x y => x &&& y) ∧ Ext w w') := by
 refine Co func88 G G ?_
 refine Sr (Ae .nilFunc (Ni (Sq (Sr (Me (U8 40#8) (Ni (Bk (Sq (Sq (Nu 31 (Nu 22 (Sq (Nu 32 (Sq (Sq (Nu 34 (Nu 23 (Sq (Sq (Nu 35 (Nu 24 ?_)))))))))))))))))))))
 refine Sq (Sq (Nu 36 (Nu 25 (Sq (Sq (Nu 39 (Nu 26 (Sq (Sq (Eu 40 (WC.skip (Ct G (Sr (Ae (.func (.func 111) #[] #[]) (Ni (WC.ret ?_))))))))))))))))
 exact ⟨_, Ro G G, and_fun _, Mod.refl _ _⟩
theorem reckons_41 (w : World) : CallsR prog 88 #[U8 41#8] w (fun v w' => FunOk w' v (signedF (fun x y => x + y)) ∧ Ext w w') := by
 refine Co func88 G G ?_
 refine Sr (Ae .nilFunc (Ni (Sq (Sr (Me (U8 41#8) (Ni (Bk (Sq (Sq (Nu 31 (Nu 22 (Sq (Nu 32 (Sq (Sq (Nu 34 (Nu 23 (Sq (Sq (Nu 35 (Nu 24 ?_)))))))))))))))))))))
 refine Sq (Sq (Nu 36 (Nu 25 (Sq (Sq (Nu 39 (Nu 26 (Sq (Sq (Nu 40 (Nu 27 (Sq (Nu 50 (Sq (Sq (Nu 45 (Eu 41 (Sr ?_))))))))))))))))))
 refine Ca (reckons_31 _) ?_
 rintro v30 w30 ⟨k30, e30⟩
 have E1 : Ext w w30 := e30
 refine Ca (signed_spec v30 (fun x y => x + y) _ k30) ?_
 rintro v31 w31 ⟨k31, e31⟩
 have E2 := Mt E1 e31
 refine Ae v31 (Ni (WC.ret ?_))
 exact ⟨_, Ro G G, k31, E2⟩
theorem reckons_42 (w : World) : CallsR prog 88 #[U8 42#8] w (fun v w' => FunOk w' v (movedF (signedF sllW)) ∧ Ext w w') := by
 refine Co func88 G G ?_
 refine Sr (Ae .nilFunc (Ni (Sq (Sr (Me (U8 42#8) (Ni (Bk (Sq (Sq (Nu 31 (Nu 22 (Sq (Nu 32 (Sq (Sq (Nu 34 (Nu 23 (Sq (Sq (Nu 35 (Nu 24 ?_)))))))))))))))))))))
 refine Sq (Sq (Nu 36 (Nu 25 (Sq (Sq (Nu 39 (Nu 26 (Sq (Sq (Nu 40 (Nu 27 (Sq (Nu 50 (Sq (Sq (Nu 45 (Nu 41 (Sq (Nu 46 (Sq (Nu 58 (Sq (Sq ?_)))))))))))))))))))))))
 refine Nu 47 (Eu 42 (Sr (Ca (signed_spec (.func (.func 115) #[] #[]) sllW _ (sll_fun _)) ?_)))
 rintro v43 w43 ⟨k43, e43⟩
 have E1 : Ext w w43 := e43
 refine Ca (moved_spec v43 (signedF sllW) _ k43) ?_
 rintro v44 w44 ⟨k44, e44⟩
 have E2 := Mt E1 e44
 refine Ae v44 (Ni (WC.ret ?_))
 exact ⟨_, Ro G G, k44, E2⟩
theorem reckons_43 (w : World) : CallsR prog 88 #[U8 43#8] w (fun v w' => FunOk w' v (movedF (unsignedF srlW)) ∧ Ext w w') := by
 refine Co func88 G G ?_
 refine Sr (Ae .nilFunc (Ni (Sq (Sr (Me (U8 43#8) (Ni (Bk (Sq (Sq (Nu 31 (Nu 22 (Sq (Nu 32 (Sq (Sq (Nu 34 (Nu 23 (Sq (Sq (Nu 35 (Nu 24 ?_)))))))))))))))))))))
 refine Sq (Sq (Nu 36 (Nu 25 (Sq (Sq (Nu 39 (Nu 26 (Sq (Sq (Nu 40 (Nu 27 (Sq (Nu 50 (Sq (Sq (Nu 45 (Nu 41 (Sq (Nu 46 (Sq (Nu 58 (Sq (Sq ?_)))))))))))))))))))))))
 refine Nu 47 (Nu 42 (Sq (Sq (Nu 48 (Eu 43 (Sr (Ca (unsigned_spec (.func (.func 117) #[] #[]) srlW _ (srl_fun _)) ?_)))))))
 rintro v48 w48 ⟨k48, e48⟩
 have E1 : Ext w w48 := e48
 refine Ca (moved_spec v48 (unsignedF srlW) _ k48) ?_
 rintro v49 w49 ⟨k49, e49⟩
 have E2 := Mt E1 e49
 refine Ae v49 (Ni (WC.ret ?_))
 exact ⟨_, Ro G G, k49, E2⟩
theorem reckons_44 (w : World) : CallsR prog 88 #[U8 44#8] w (fun v w' => FunOk w' v (movedF (signedF sraW)) ∧ Ext w w') := by
 refine Co func88 G G ?_
 refine Sr (Ae .nilFunc (Ni (Sq (Sr (Me (U8 44#8) (Ni (Bk (Sq (Sq (Nu 31 (Nu 22 (Sq (Nu 32 (Sq (Sq (Nu 34 (Nu 23 (Sq (Sq (Nu 35 (Nu 24 ?_)))))))))))))))))))))
 refine Sq (Sq (Nu 36 (Nu 25 (Sq (Sq (Nu 39 (Nu 26 (Sq (Sq (Nu 40 (Nu 27 (Sq (Nu 50 (Sq (Sq (Nu 45 (Nu 41 (Sq (Nu 46 (Sq (Nu 58 (Sq (Sq ?_)))))))))))))))))))))))
 refine Nu 47 (Nu 42 (Sq (Sq (Nu 48 (Nu 43 (Sq (Sq (Nu 49 (Eu 44 (Sr (Ca (signed_spec (.func (.func 118) #[] #[]) sraW _ (sra_fun _)) ?_)))))))))))
 rintro v53 w53 ⟨k53, e53⟩
 have E1 : Ext w w53 := e53
 refine Ca (moved_spec v53 (signedF sraW) _ k53) ?_
 rintro v54 w54 ⟨k54, e54⟩
 have E2 := Mt E1 e54
 refine Ae v54 (Ni (WC.ret ?_))
 exact ⟨_, Ro G G, k54, E2⟩
theorem reckons_45 (w : World) : CallsR prog 88 #[U8 45#8] w (fun v w' => FunOk w' v (signedF (fun x y => x + y)) ∧ Ext w w') := by
 refine Co func88 G G ?_
 refine Sr (Ae .nilFunc (Ni (Sq (Sr (Me (U8 45#8) (Ni (Bk (Sq (Sq (Nu 31 (Nu 22 (Sq (Nu 32 (Sq (Sq (Nu 34 (Nu 23 (Sq (Sq (Nu 35 (Nu 24 ?_)))))))))))))))))))))
 refine Sq (Sq (Nu 36 (Nu 25 (Sq (Sq (Nu 39 (Nu 26 (Sq (Sq (Nu 40 (Nu 27 (Sq (Nu 50 (Sq (Sq (Eu 45 (WC.skip (Ct G (Sq ?_)))))))))))))))))))
 refine Rg (Ca (reckons_31 _) ?_)
 rintro v30 w30 ⟨k30, e30⟩
 have E1 : Ext w w30 := e30
 refine Ca (signed_spec v30 (fun x y => x + y) _ k30) ?_
 rintro v31 w31 ⟨k31, e31⟩
 have E2 := Mt E1 e31
 refine Ae v31 (Ni (WC.ret ?_))
 exact ⟨_, Ro G G, k31, E2⟩
theorem reckons_46 (w : World) : CallsR prog 88 #[U8 46#8] w (fun v w' => FunOk w' v (signedF (fun x y => x - y)) ∧ Ext w w') := by
 refine Co func88 G G ?_
 refine Sr (Ae .nilFunc (Ni (Sq (Sr (Me (U8 46#8) (Ni (Bk (Sq (Sq (Nu 31 (Nu 22 (Sq (Nu 32 (Sq (Sq (Nu 34 (Nu 23 (Sq (Sq (Nu 35 (Nu 24 ?_)))))))))))))))))))))
 refine Sq (Sq (Nu 36 (Nu 25 (Sq (Sq (Nu 39 (Nu 26 (Sq (Sq (Nu 40 (Nu 27 (Sq (Nu 50 (Sq (Sq (Nu 45 (Nu 41 (Sq (Eu 46 ?_)))))))))))))))))))
 refine Sr (Ca (reckons_32 _) ?_)
 rintro v34 w34 ⟨k34, e34⟩
 have E1 : Ext w w34 := e34
 refine Ca (signed_spec v34 (fun x y => x - y) _ k34) ?_
 rintro v35 w35 ⟨k35, e35⟩
 have E2 := Mt E1 e35
 refine Ae v35 (Ni (WC.ret ?_))
 exact ⟨_, Ro G G, k35, E2⟩
theorem reckons_47 (w : World) : CallsR prog 88 #[U8 47#8] w (fun v w' => FunOk w' v (movedF (signedF sllW)) ∧ Ext w w') := by
 refine Co func88 G G ?_
 refine Sr (Ae .nilFunc (Ni (Sq (Sr (Me (U8 47#8) (Ni (Bk (Sq (Sq (Nu 31 (Nu 22 (Sq (Nu 32 (Sq (Sq (Nu 34 (Nu 23 (Sq (Sq (Nu 35 (Nu 24 ?_)))))))))))))))))))))
 refine Sq (Sq (Nu 36 (Nu 25 (Sq (Sq (Nu 39 (Nu 26 (Sq (Sq (Nu 40 (Nu 27 (Sq (Nu 50 (Sq (Sq (Nu 45 (Nu 41 (Sq (Nu 46 (Sq (Nu 58 (Sq (Sq ?_)))))))))))))))))))))))
 refine Eu 47 (WC.skip (Ct G (Sr (Ca (signed_spec (.func (.func 115) #[] #[]) sllW _ (sll_fun _)) ?_))))
 rintro v43 w43 ⟨k43, e43⟩
 have E1 : Ext w w43 := e43
 refine Ca (moved_spec v43 (signedF sllW) _ k43) ?_
 rintro v44 w44 ⟨k44, e44⟩
 have E2 := Mt E1 e44
 refine Ae v44 (Ni (WC.ret ?_))
 exact ⟨_, Ro G G, k44, E2⟩
theorem reckons_48 (w : World) : CallsR prog 88 #[U8 48#8] w (fun v w' => FunOk w' v (movedF (unsignedF srlW)) ∧ Ext w w') := by
 refine Co func88 G G ?_
 refine Sr (Ae .nilFunc (Ni (Sq (Sr (Me (U8 48#8) (Ni (Bk (Sq (Sq (Nu 31 (Nu 22 (Sq (Nu 32 (Sq (Sq (Nu 34 (Nu 23 (Sq (Sq (Nu 35 (Nu 24 ?_)))))))))))))))))))))
 refine Sq (Sq (Nu 36 (Nu 25 (Sq (Sq (Nu 39 (Nu 26 (Sq (Sq (Nu 40 (Nu 27 (Sq (Nu 50 (Sq (Sq (Nu 45 (Nu 41 (Sq (Nu 46 (Sq (Nu 58 (Sq (Sq ?_)))))))))))))))))))))))
 refine Nu 47 (Nu 42 (Sq (Sq (Eu 48 (WC.skip (Ct G (Sr (Ca (unsigned_spec (.func (.func 117) #[] #[]) srlW _ (srl_fun _)) ?_))))))))
 rintro v48 w48 ⟨k48, e48⟩
 have E1 : Ext w w48 := e48
 refine Ca (moved_spec v48 (unsignedF srlW) _ k48) ?_
 rintro v49 w49 ⟨k49, e49⟩
 have E2 := Mt E1 e49
 refine Ae v49 (Ni (WC.ret ?_))
 exact ⟨_, Ro G G, k49, E2⟩
theorem reckons_49 (w : World) : CallsR prog 88 #[U8 49#8] w (fun v w' => FunOk w' v (movedF (signedF sraW)) ∧ Ext w w') := by
 refine Co func88 G G ?_
 refine Sr (Ae .nilFunc (Ni (Sq (Sr (Me (U8 49#8) (Ni (Bk (Sq (Sq (Nu 31 (Nu 22 (Sq (Nu 32 (Sq (Sq (Nu 34 (Nu 23 (Sq (Sq (Nu 35 (Nu 24 ?_)))))))))))))))))))))
 refine Sq (Sq (Nu 36 (Nu 25 (Sq (Sq (Nu 39 (Nu 26 (Sq (Sq (Nu 40 (Nu 27 (Sq (Nu 50 (Sq (Sq (Nu 45 (Nu 41 (Sq (Nu 46 (Sq (Nu 58 (Sq (Sq ?_)))))))))))))))))))))))
 refine Nu 47 (Nu 42 (Sq (Sq (Nu 48 (Nu 43 (Sq (Sq (Eu 49 (WC.skip (Ct G (Sr (Ca (signed_spec (.func (.func 118) #[] #[]) sraW _ (sra_fun _)) ?_))))))))))))
 rintro v53 w53 ⟨k53, e53⟩
 have E1 : Ext w w53 := e53
 refine Ca (moved_spec v53 (signedF sraW) _ k53) ?_
 rintro v54 w54 ⟨k54, e54⟩
 have E2 := Mt E1 e54
 refine Ae v54 (Ni (WC.ret ?_))
 exact ⟨_, Ro G G, k54, E2⟩
theorem reckons_51 (w : World) : CallsR prog 88 #[U8 51#8] w (fun v w' => FunOk w' v mulhW ∧ Ext w w') := (reckons_z 51#8 (by decide) w).mono fun _ _ h => ⟨h.1 ▸ mulh_fun _, h.2⟩
theorem reckons_52 (w : World) : CallsR prog 88 #[U8 52#8] w (fun v w' => FunOk w' v mulhsuW ∧ Ext w w') := (reckons_z 52#8 (by decide) w).mono fun _ _ h => ⟨h.1 ▸ mulhsu_fun _, h.2⟩
theorem reckons_53 (w : World) : CallsR prog 88 #[U8 53#8] w (fun v w' => FunOk w' v hiW ∧ Ext w w') := (reckons_z 53#8 (by decide) w).mono fun _ _ h => ⟨h.1 ▸ mulhu_fun _, h.2⟩
theorem reckons_54 (w : World) : CallsR prog 88 #[U8 54#8] w (fun v w' => FunOk w' v divW ∧ Ext w w') := (reckons_z 54#8 (by decide) w).mono fun _ _ h => ⟨h.1 ▸ div_fun _, h.2⟩
theorem reckons_55 (w : World) : CallsR prog 88 #[U8 55#8] w (fun v w' => FunOk w' v divuW ∧ Ext w w') := (reckons_z 55#8 (by decide) w).mono fun _ _ h => ⟨h.1 ▸ divu_fun _, h.2⟩
theorem reckons_56 (w : World) : CallsR prog 88 #[U8 56#8] w (fun v w' => FunOk w' v remW ∧ Ext w w') := (reckons_z 56#8 (by decide) w).mono fun _ _ h => ⟨h.1 ▸ rem_fun _, h.2⟩
theorem reckons_57 (w : World) : CallsR prog 88 #[U8 57#8] w (fun v w' => FunOk w' v remuW ∧ Ext w w') := (reckons_z 57#8 (by decide) w).mono fun _ _ h => ⟨h.1 ▸ remu_fun _, h.2⟩
theorem reckons_58 (w : World) : CallsR prog 88 #[U8 58#8] w (fun v w' => FunOk w' v (signedF (fun x y => x * y)) ∧ Ext w w') := by
 refine Co func88 G G ?_
 refine Sr (Ae .nilFunc (Ni (Sq (Sr (Me (U8 58#8) (Ni (Bk (Sq (Sq (Nu 31 (Nu 22 (Sq (Nu 32 (Sq (Sq (Nu 34 (Nu 23 (Sq (Sq (Nu 35 (Nu 24 ?_)))))))))))))))))))))
 refine Sq (Sq (Nu 36 (Nu 25 (Sq (Sq (Nu 39 (Nu 26 (Sq (Sq (Nu 40 (Nu 27 (Sq (Nu 50 (Sq (Sq (Nu 45 (Nu 41 (Sq (Nu 46 (Sr (Bt (vy := U8 58#8) G G BinR.eqlU8 (by decide) (Ae (.bool true) ?_))))))))))))))))))))))
 refine Ni (Ct G (Sr (Ca (reckons_50 _) ?_)))
 rintro v38 w38 ⟨k38, e38⟩
 have E1 : Ext w w38 := e38
 refine Ca (signed_spec v38 (fun x y => x * y) _ k38) ?_
 rintro v39 w39 ⟨k39, e39⟩
 have E2 := Mt E1 e39
 refine Ae v39 (Ni (WC.ret ?_))
 exact ⟨_, Ro G G, k39, E2⟩
theorem reckons_59 (w : World) : CallsR prog 88 #[U8 59#8] w (fun v w' => FunOk w' v (signedF divW) ∧ Ext w w') := by
 refine Co func88 G G ?_
 refine Sr (Ae .nilFunc (Ni (Sq (Sr (Me (U8 59#8) (Ni (Bk (Sq (Sq (Nu 31 (Nu 22 (Sq (Nu 32 (Sq (Sq (Nu 34 (Nu 23 (Sq (Sq (Nu 35 (Nu 24 ?_)))))))))))))))))))))
 refine Sq (Sq (Nu 36 (Nu 25 (Sq (Sq (Nu 39 (Nu 26 (Sq (Sq (Nu 40 (Nu 27 (Sq (Nu 50 (Sq (Sq (Nu 45 (Nu 41 (Sq (Nu 46 (Sq (Nu 58 (Sq (Sq ?_)))))))))))))))))))))))
 refine Nu 47 (Nu 42 (Sq (Sq (Nu 48 (Nu 43 (Sq (Sq (Nu 49 (Nu 44 (Sq (Eu 59 (Sr (Ca (signed_spec (.func (.func 119) #[] #[]) divW _ (div_fun _)) ?_)))))))))))))
 rintro v57 w57 ⟨k57, e57⟩
 have E1 : Ext w w57 := e57
 refine Ae v57 (Ni (WC.ret ?_))
 exact ⟨_, Ro G G, k57, E1⟩
theorem reckons_60 (w : World) : CallsR prog 88 #[U8 60#8] w (fun v w' => FunOk w' v (unsignedF divuW) ∧ Ext w w') := by
 refine Co func88 G G ?_
 refine Sr (Ae .nilFunc (Ni (Sq (Sr (Me (U8 60#8) (Ni (Bk (Sq (Sq (Nu 31 (Nu 22 (Sq (Nu 32 (Sq (Sq (Nu 34 (Nu 23 (Sq (Sq (Nu 35 (Nu 24 ?_)))))))))))))))))))))
 refine Sq (Sq (Nu 36 (Nu 25 (Sq (Sq (Nu 39 (Nu 26 (Sq (Sq (Nu 40 (Nu 27 (Sq (Nu 50 (Sq (Sq (Nu 45 (Nu 41 (Sq (Nu 46 (Sq (Nu 58 (Sq (Sq ?_)))))))))))))))))))))))
 refine Nu 47 (Nu 42 (Sq (Sq (Nu 48 (Nu 43 (Sq (Sq (Nu 49 (Nu 44 (Sq (Nu 59 (Sq (Eu 60 (Sr (Ca (unsigned_spec (.func (.func 120) #[] #[]) divuW _ (divu_fun _)) ?_)))))))))))))))
 rintro v60 w60 ⟨k60, e60⟩
 have E1 : Ext w w60 := e60
 refine Ae v60 (Ni (WC.ret ?_))
 exact ⟨_, Ro G G, k60, E1⟩
theorem reckons_61 (w : World) : CallsR prog 88 #[U8 61#8] w (fun v w' => FunOk w' v (signedF remW) ∧ Ext w w') := by
 refine Co func88 G G ?_
 refine Sr (Ae .nilFunc (Ni (Sq (Sr (Me (U8 61#8) (Ni (Bk (Sq (Sq (Nu 31 (Nu 22 (Sq (Nu 32 (Sq (Sq (Nu 34 (Nu 23 (Sq (Sq (Nu 35 (Nu 24 ?_)))))))))))))))))))))
 refine Sq (Sq (Nu 36 (Nu 25 (Sq (Sq (Nu 39 (Nu 26 (Sq (Sq (Nu 40 (Nu 27 (Sq (Nu 50 (Sq (Sq (Nu 45 (Nu 41 (Sq (Nu 46 (Sq (Nu 58 (Sq (Sq ?_)))))))))))))))))))))))
 refine Nu 47 (Nu 42 (Sq (Sq (Nu 48 (Nu 43 (Sq (Sq (Nu 49 (Nu 44 (Sq (Nu 59 (Sq (Nu 60 (Sq (Eu 61 (Sr (Ca (signed_spec (.func (.func 121) #[] #[]) remW _ (rem_fun _)) ?_)))))))))))))))))
 rintro v63 w63 ⟨k63, e63⟩
 have E1 : Ext w w63 := e63
 refine Ae v63 (Ni (WC.ret ?_))
 exact ⟨_, Ro G G, k63, E1⟩
theorem reckons_62 (w : World) : CallsR prog 88 #[U8 62#8] w (fun v w' => FunOk w' v (unsignedF remuW) ∧ Ext w w') := by
 refine Co func88 G G ?_
 refine Sr (Ae .nilFunc (Ni (Sq (Sr (Me (U8 62#8) (Ni (Bk (Sq (Sq (Nu 31 (Nu 22 (Sq (Nu 32 (Sq (Sq (Nu 34 (Nu 23 (Sq (Sq (Nu 35 (Nu 24 ?_)))))))))))))))))))))
 refine Sq (Sq (Nu 36 (Nu 25 (Sq (Sq (Nu 39 (Nu 26 (Sq (Sq (Nu 40 (Nu 27 (Sq (Nu 50 (Sq (Sq (Nu 45 (Nu 41 (Sq (Nu 46 (Sq (Nu 58 (Sq (Sq ?_)))))))))))))))))))))))
 refine Nu 47 (Nu 42 (Sq (Sq (Nu 48 (Nu 43 (Sq (Sq (Nu 49 (Nu 44 (Sq (Nu 59 (Sq (Nu 60 (Sq (Nu 61 (Sq (Eu 62 (Sr ?_))))))))))))))))))
 refine Ca (unsigned_spec (.func (.func 122) #[] #[]) remuW _ (remu_fun _)) ?_
 rintro v66 w66 ⟨k66, e66⟩
 have E1 : Ext w w66 := e66
 refine Ae v66 (Ni (WC.ret ?_))
 exact ⟨_, Ro G G, k66, E1⟩
theorem reckons_63 (w : World) : CallsR prog 88 #[U8 63#8] w (fun v w' => v = .nilFunc ∧ Ext w w') := (reckons_z 63#8 (by decide) w).mono fun _ _ h => ⟨h.1, h.2⟩
theorem reckons_64 (w : World) : CallsR prog 88 #[U8 64#8] w (fun v w' => v = .nilFunc ∧ Ext w w') := (reckons_z 64#8 (by decide) w).mono fun _ _ h => ⟨h.1, h.2⟩
theorem reckons_65 (w : World) : CallsR prog 88 #[U8 65#8] w (fun v w' => v = .nilFunc ∧ Ext w w') := (reckons_z 65#8 (by decide) w).mono fun _ _ h => ⟨h.1, h.2⟩
end Go.Proofs.N
end
section
set_option linter.unusedSimpArgs false
set_option linter.unusedVariables false
namespace Go.Proofs.N
open Go Go.Ux Go.Ux.Mach Go.Proofs
open Tryz
theorem fo48_4 : fieldOff prog 48 4 = some 4 := by kernel_rfl
theorem fo48_0 : fieldOff prog 48 0 = some 0 := by kernel_rfl
theorem BinR.andNotU64 {P : Program} {t : TypeId} {x y : BitVec 64} : BinR P .andNot t (U64 x) (U64 y) (U64 (x &&& ~~~y)) := .of_int fun w => by
 have e : Op.intBits .andNot .u64 (x.toNat : Int) (y.toNat : Int) = pure (.int .u64 (IntKind.u64.wrap ((x &&& ~~~y).toNat : Int))) := by unfold Op.intBits; simp only [IntKind.bits, ofInt_toNat_id]; rfl
 simp only [binOp, ne_eq, not_true_eq_false, if_false, e, wrap_u64_bv, ofInt_toNat_id, Sem.run_pure]
theorem jumps_z (z : BitVec 8) (hz : ∀ c ∈ [5#8, 6#8, 7#8, 8#8, 9#8, 10#8], (z == c) = false) (x y : BitVec 64) (w : World) : Cx 87 #[U8 z, U64 x, U64 y] w (.tuple #[.bool false, .bool false]) := by
 refine Co func87 G G ?_
 refine Sr (Ae (.bool false) (Ae (.bool false) (Ni (Sq (Sr (Me (U8 z) (Ni (Bk (Sq (Nz 5 hz (Sq (Nz 6 hz (Sq (Nz 7 hz (Sq (Nz 8 hz (Sq (Nz 9 hz (Sq (Nz 10 hz (WC.skip ?_)))))))))))))))))))))
 refine Sr (Ae (.bool false) (Ae (.bool false) (Ni (WC.ret ?_))))
 exact ⟨_, Rp G G G, G, Mod.refl _ _⟩
theorem jumps_5 (x y : BitVec 64) (w : World) : Cx 87 #[U8 5#8, U64 x, U64 y] w (.tuple #[.bool ((x == y)), .bool true]) := by
 refine Co func87 G G ?_
 refine Sr (Ae (.bool false) (Ae (.bool false) (Ni (Sq (Sr (Me (U8 5#8) (Ni (Bk (Sq (Eu 5 (Sr (Me (U64 x) (Me (U64 y) (Bn G G BinR.eqlU64 (Ae (.bool ((x == y))) (Ae (.bool true) ?_))))))))))))))))
 refine Ni (WC.ret ?_)
 exact ⟨_, Rp G G G, G, Mod.refl _ _⟩
theorem jumps_6 (x y : BitVec 64) (w : World) : Cx 87 #[U8 6#8, U64 x, U64 y] w (.tuple #[.bool ((x != y)), .bool true]) := by
 refine Co func87 G G ?_
 refine Sr (Ae (.bool false) (Ae (.bool false) (Ni (Sq (Sr (Me (U8 6#8) (Ni (Bk (Sq (Nu 5 (Sq (Eu 6 (Sr (Me (U64 x) (Me (U64 y) (Bn G G BinR.neqU64 ?_))))))))))))))))
 refine Ae (.bool ((x != y))) (Ae (.bool true) (Ni (WC.ret ?_)))
 exact ⟨_, Rp G G G, G, Mod.refl _ _⟩
theorem jumps_7 (x y : BitVec 64) (w : World) : Cx 87 #[U8 7#8, U64 x, U64 y] w (.tuple #[.bool (BitVec.slt x y), .bool true]) := by
 refine Co func87 G G ?_
 refine Sr (Ae (.bool false) (Ae (.bool false) (Ni (Sq (Sr (Me (U8 7#8) (Ni (Bk (Sq (Nu 5 (Sq (Nu 6 (Sq (Eu 7 (Sr (Me (U64 x) ?_))))))))))))))))
 refine Cv G (ConvR.u64i64 y39 y2) (Me (U64 y) (Cv G (ConvR.u64i64 y39 y2) (Bn G G BinR.lss64 (Ae (.bool (BitVec.slt x y)) (Ae (.bool true) (Ni (WC.ret ?_)))))))
 exact ⟨_, Rp G G G, G, Mod.refl _ _⟩
theorem jumps_8 (x y : BitVec 64) (w : World) : Cx 87 #[U8 8#8, U64 x, U64 y] w (.tuple #[.bool (BitVec.sle y x), .bool true]) := by
 refine Co func87 G G ?_
 refine Sr (Ae (.bool false) (Ae (.bool false) (Ni (Sq (Sr (Me (U8 8#8) (Ni (Bk (Sq (Nu 5 (Sq (Nu 6 (Sq (Nu 7 (Sq (Eu 8 (Sq ?_)))))))))))))))))
 refine Rg (Me (U64 x) (Cv G (ConvR.u64i64 y39 y2) (Me (U64 y) (Cv G (ConvR.u64i64 y39 y2) (Bn G G BinR.geq64 (Ae (.bool (BitVec.sle y x)) (Ae (.bool true) (Ni (WC.ret ?_)))))))))
 exact ⟨_, Rp G G G, G, Mod.refl _ _⟩
theorem jumps_9 (x y : BitVec 64) (w : World) : Cx 87 #[U8 9#8, U64 x, U64 y] w (.tuple #[.bool (BitVec.ult x y), .bool true]) := by
 refine Co func87 G G ?_
 refine Sr (Ae (.bool false) (Ae (.bool false) (Ni (Sq (Sr (Me (U8 9#8) (Ni (Bk (Sq (Nu 5 (Sq (Nu 6 (Sq (Nu 7 (Sq (Nu 8 (Sr (Bt (vy := U8 9#8) G G BinR.eqlU8 (by decide) (Ae (.bool true) (Ni ?_))))))))))))))))))))
 refine Ct G (Sr (Me (U64 x) (Me (U64 y) (Bn G G BinR.lssU64 (Ae (.bool (BitVec.ult x y)) (Ae (.bool true) (Ni (WC.ret ?_))))))))
 exact ⟨_, Rp G G G, G, Mod.refl _ _⟩
theorem jumps_10 (x y : BitVec 64) (w : World) : Cx 87 #[U8 10#8, U64 x, U64 y] w (.tuple #[.bool (BitVec.ule y x), .bool true]) := by
 refine Co func87 G G ?_
 refine Sr (Ae (.bool false) (Ae (.bool false) (Ni (Sq (Sr (Me (U8 10#8) (Ni (Bk (Sq (Nu 5 (Sq (Nu 6 (Sq (Nu 7 (Sq (Nu 8 (Sq (Nu 9 (Sr (Bt (vy := U8 10#8) G G BinR.eqlU8 (by decide) ?_))))))))))))))))))))
 refine Ae (.bool true) (Ni (Ct G (Sr (Me (U64 x) (Me (U64 y) (Bn G G BinR.geqU64 (Ae (.bool (BitVec.ule y x)) (Ae (.bool true) (Ni (WC.ret ?_))))))))))
 exact ⟨_, Rp G G G, G, Mod.refl _ _⟩
theorem do_none (z : BitVec 8) (hj : ∀ c ∈ [5#8, 6#8, 7#8, 8#8, 9#8, 10#8], (z == c) = false) (hz : ∀ c ∈ [1#8, 2#8, 3#8, 4#8], (z == c) = false) (hr : ∀ w, CallsR prog 88 #[U8 z] w (fun v w' => v = .nilFunc ∧ Ext w w')) (rd rs1 rs2 : BitVec 8) (imm pc x y : BitVec 64) (w : World) : CallsR prog 53 #[.agg #[U8 z, U8 rd, U8 rs1, U8 rs2, I64 imm], U64 pc, U64 x, U64 y] w (fun v w' => v = .tuple #[U64 0#64, U64 (pc + 4#64)] ∧ Ext w w') := by
 refine Co func53 G G ?_
 refine Sr (WL.box (v := .agg #[U8 z, U8 rd, U8 rs1, U8 rs2, I64 imm]) G G ?_)
 intro b4 w4 n4
 have E1 : Ext w w4 := n4.ext
 refine Ae (U64 0#64) (Ae (U64 0#64) (Ni (Sr (Fa G fo48_4 (Le (n4.blk.cell (j := 4) G) (Cv G (ConvR.i64u64 y2 y39) (Me (U64 pc) (Bn (vy := U64 4#64) G G BinR.addU64 (Ae (U64 imm) (Ae (U64 ((pc + 4#64))) (Ni (Sq (Sr (Fa G fo48_0 (Le (n4.blk.cell (j := 0) G) (Me (U64 x) (Me (U64 y) (Ca (jumps_z z hj x y _) ?_))))))))))))))))))
 rintro _ wj ⟨rfl, ej⟩
 have E2 := Mt E1 ej
 refine Me (.tuple #[.bool false, .bool false]) (Et G G (Et G G (Ae (.bool false) (Ae (.bool false) (Ni (Sr (Me (.bool false) (Ni (Cf G (WC.skip (Sq (Sr (Fa G fo48_0 ?_)))))))))))))
 have B3 := n4.blk.ext ej
 refine Le (B3.cell (j := 0) G) (Ni (Bk (Sq (Nz 1 hz (Sq (Nz 2 hz (Sq (Nz 3 hz (Sq (Nz 4 hz (WC.skip (Sr (Fa G fo48_0 (Le (B3.cell (j := 0) G) (Ca (hr _) ?_)))))))))))))))
 rintro _ wr ⟨rfl, er⟩
 have E4 := Mt E2 er
 refine Ae .nilFunc (Ni (Sq (Sr (Me .nilFunc (Bn G G (BinR.eqlNil y178) (Ni (Ct G (Sr (Me (U64 ((pc + 4#64))) (Ae (U64 0#64) (Ae (U64 ((pc + 4#64))) (Ni (WC.ret ?_)))))))))))))
 exact ⟨_, Rp G G G, G, E4⟩
theorem do_y (z : BitVec 8) (F : BitVec 64 → BitVec 64 → BitVec 64) (hj : ∀ c ∈ [5#8, 6#8, 7#8, 8#8, 9#8, 10#8], (z == c) = false) (hz : ∀ c ∈ [1#8, 2#8, 3#8, 4#8, 22#8, 23#8, 24#8, 25#8, 26#8, 27#8, 28#8, 29#8, 30#8, 41#8, 42#8, 43#8, 44#8], (z == c) = false) (hr : ∀ w, CallsR prog 88 #[U8 z] w (fun v w' => FunOk w' v F ∧ Ext w w')) (rd rs1 rs2 : BitVec 8) (imm pc x y : BitVec 64) (w : World) : CallsR prog 53 #[.agg #[U8 z, U8 rd, U8 rs1, U8 rs2, I64 imm], U64 pc, U64 x, U64 y] w (fun v w' => v = .tuple #[U64 (F x y), U64 (pc + 4#64)] ∧ Ext w w') := by
 refine Co func53 G G ?_
 refine Sr (WL.box (v := .agg #[U8 z, U8 rd, U8 rs1, U8 rs2, I64 imm]) G G ?_)
 intro b4 w4 n4
 have E1 : Ext w w4 := n4.ext
 refine Ae (U64 0#64) (Ae (U64 0#64) (Ni (Sr (Fa G fo48_4 (Le (n4.blk.cell (j := 4) G) (Cv G (ConvR.i64u64 y2 y39) (Me (U64 pc) (Bn (vy := U64 4#64) G G BinR.addU64 (Ae (U64 imm) (Ae (U64 ((pc + 4#64))) (Ni (Sq (Sr (Fa G fo48_0 (Le (n4.blk.cell (j := 0) G) (Me (U64 x) (Me (U64 y) (Ca (jumps_z z hj x y _) ?_))))))))))))))))))
 rintro _ wj ⟨rfl, ej⟩
 have E2 := Mt E1 ej
 refine Me (.tuple #[.bool false, .bool false]) (Et G G (Et G G (Ae (.bool false) (Ae (.bool false) (Ni (Sr (Me (.bool false) (Ni (Cf G (WC.skip (Sq (Sr (Fa G fo48_0 ?_)))))))))))))
 have B3 := n4.blk.ext ej
 refine Le (B3.cell (j := 0) G) (Ni (Bk (Sq (Nz 1 hz (Sq (Nz 2 hz (Sq (Nz 3 hz (Sq (Nz 4 hz (WC.skip (Sr (Fa G fo48_0 (Le (B3.cell (j := 0) G) (Ca (hr _) ?_)))))))))))))))
 rintro _ wr ⟨⟨g, cs, rfl, hcal, hcl⟩, er⟩
 have E4 := Mt E2 er
 refine Ae (.func (.func g) #[] cs) (Ni (Sq (Sr (Me (.func (.func g) #[] cs) (Bn G G (BinR.eqlFnil y178) (Ni (Cf G (WC.skip (Sq (Sr (Fa G fo48_0 ?_)))))))))))
 have B5 := B3.ext er
 refine Le (B5.cell (j := 0) G) (Ni (Bk (Sq (Sq (Nz 22 hz (Sq (Nz 23 hz (Sq (Nz 24 hz (Sq (Nz 25 hz (Sq (Nz 26 hz (Sq (Nz 27 hz (Sq (Nz 28 hz (Sq (Nz 29 hz (Sq (Nz 30 hz (Sq (Nz 41 hz ?_)))))))))))))))))))))))
 refine Sq (Nz 42 hz (Sq (Nz 43 hz (Nz 44 hz (WC.skip (Sr (Me (.func (.func g) #[] cs) (Me (U64 x) (Me (U64 y) (WL.callV (fs := #[]) (cs := cs) G hcal G G (hcl _ (Mod.refl _ _) x y) ?_))))))))))
 rintro _ wc ⟨rfl, ec⟩
 have E7 := Mt E4 ec
 refine Me (U64 ((pc + 4#64))) (Ae (U64 (F x y)) (Ae (U64 ((pc + 4#64))) (Ni (WC.ret ?_))))
 exact ⟨_, Rp G G G, G, E7⟩
theorem do_1 (rd rs1 rs2 : BitVec 8) (imm pc x y : BitVec 64) (w : World) : Cx 53 #[.agg #[U8 1#8, U8 rd, U8 rs1, U8 rs2, I64 imm], U64 pc, U64 x, U64 y] w (.tuple #[U64 imm, U64 (pc + 4#64)]) := by
 refine Co func53 G G ?_
 refine Sr (WL.box (v := .agg #[U8 1#8, U8 rd, U8 rs1, U8 rs2, I64 imm]) G G ?_)
 intro b4 w4 n4
 have E1 : Ext w w4 := n4.ext
 refine Ae (U64 0#64) (Ae (U64 0#64) (Ni (Sr (Fa G fo48_4 (Le (n4.blk.cell (j := 4) G) (Cv G (ConvR.i64u64 y2 y39) (Me (U64 pc) (Bn (vy := U64 4#64) G G BinR.addU64 (Ae (U64 imm) (Ae (U64 ((pc + 4#64))) (Ni (Sq (Sr (Fa G fo48_0 (Le (n4.blk.cell (j := 0) G) (Me (U64 x) (Me (U64 y) (Ca (jumps_z 1#8 (by decide) x y _) ?_))))))))))))))))))
 rintro _ wj ⟨rfl, ej⟩
 have E2 := Mt E1 ej
 refine Me (.tuple #[.bool false, .bool false]) (Et G G (Et G G (Ae (.bool false) (Ae (.bool false) (Ni (Sr (Me (.bool false) (Ni (Cf G (WC.skip (Sq (Sr (Fa G fo48_0 ?_)))))))))))))
 have B3 := n4.blk.ext ej
 refine Le (B3.cell (j := 0) G) (Ni (Bk (Sq (Eu 1 (Sr (Me (U64 imm) (Me (U64 ((pc + 4#64))) (Ae (U64 imm) (Ae (U64 ((pc + 4#64))) (Ni (WC.ret ?_)))))))))))
 exact ⟨_, Rp G G G, G, E2⟩
theorem do_2 (rd rs1 rs2 : BitVec 8) (imm pc x y : BitVec 64) (w : World) : Cx 53 #[.agg #[U8 2#8, U8 rd, U8 rs1, U8 rs2, I64 imm], U64 pc, U64 x, U64 y] w (.tuple #[U64 (pc + imm), U64 (pc + 4#64)]) := by
 refine Co func53 G G ?_
 refine Sr (WL.box (v := .agg #[U8 2#8, U8 rd, U8 rs1, U8 rs2, I64 imm]) G G ?_)
 intro b4 w4 n4
 have E1 : Ext w w4 := n4.ext
 refine Ae (U64 0#64) (Ae (U64 0#64) (Ni (Sr (Fa G fo48_4 (Le (n4.blk.cell (j := 4) G) (Cv G (ConvR.i64u64 y2 y39) (Me (U64 pc) (Bn (vy := U64 4#64) G G BinR.addU64 (Ae (U64 imm) (Ae (U64 ((pc + 4#64))) (Ni (Sq (Sr (Fa G fo48_0 (Le (n4.blk.cell (j := 0) G) (Me (U64 x) (Me (U64 y) (Ca (jumps_z 2#8 (by decide) x y _) ?_))))))))))))))))))
 rintro _ wj ⟨rfl, ej⟩
 have E2 := Mt E1 ej
 refine Me (.tuple #[.bool false, .bool false]) (Et G G (Et G G (Ae (.bool false) (Ae (.bool false) (Ni (Sr (Me (.bool false) (Ni (Cf G (WC.skip (Sq (Sr (Fa G fo48_0 ?_)))))))))))))
 have B3 := n4.blk.ext ej
 refine Le (B3.cell (j := 0) G) (Ni (Bk (Sq (Nu 1 (Sq (Eu 2 (Sr (Me (U64 pc) (Me (U64 imm) (Bn G G BinR.addU64 (Me (U64 ((pc + 4#64))) (Ae (U64 ((pc + imm))) (Ae (U64 ((pc + 4#64))) (Ni (WC.ret ?_)))))))))))))))
 exact ⟨_, Rp G G G, G, E2⟩
theorem do_3 (rd rs1 rs2 : BitVec 8) (imm pc x y : BitVec 64) (w : World) : Cx 53 #[.agg #[U8 3#8, U8 rd, U8 rs1, U8 rs2, I64 imm], U64 pc, U64 x, U64 y] w (.tuple #[U64 (pc + 4#64), U64 (pc + imm)]) := by
 refine Co func53 G G ?_
 refine Sr (WL.box (v := .agg #[U8 3#8, U8 rd, U8 rs1, U8 rs2, I64 imm]) G G ?_)
 intro b4 w4 n4
 have E1 : Ext w w4 := n4.ext
 refine Ae (U64 0#64) (Ae (U64 0#64) (Ni (Sr (Fa G fo48_4 (Le (n4.blk.cell (j := 4) G) (Cv G (ConvR.i64u64 y2 y39) (Me (U64 pc) (Bn (vy := U64 4#64) G G BinR.addU64 (Ae (U64 imm) (Ae (U64 ((pc + 4#64))) (Ni (Sq (Sr (Fa G fo48_0 (Le (n4.blk.cell (j := 0) G) (Me (U64 x) (Me (U64 y) (Ca (jumps_z 3#8 (by decide) x y _) ?_))))))))))))))))))
 rintro _ wj ⟨rfl, ej⟩
 have E2 := Mt E1 ej
 refine Me (.tuple #[.bool false, .bool false]) (Et G G (Et G G (Ae (.bool false) (Ae (.bool false) (Ni (Sr (Me (.bool false) (Ni (Cf G (WC.skip (Sq (Sr (Fa G fo48_0 ?_)))))))))))))
 have B3 := n4.blk.ext ej
 refine Le (B3.cell (j := 0) G) (Ni (Bk (Sq (Nu 1 (Sq (Nu 2 (Sq (Eu 3 (Sr (Me (U64 ((pc + 4#64))) (Me (U64 pc) (Me (U64 imm) (Bn G G BinR.addU64 (Ae (U64 ((pc + 4#64))) (Ae (U64 ((pc + imm))) (Ni (WC.ret ?_)))))))))))))))))
 exact ⟨_, Rp G G G, G, E2⟩
theorem do_4 (rd rs1 rs2 : BitVec 8) (imm pc x y : BitVec 64) (w : World) : Cx 53 #[.agg #[U8 4#8, U8 rd, U8 rs1, U8 rs2, I64 imm], U64 pc, U64 x, U64 y] w (.tuple #[U64 (pc + 4#64), U64 ((x + imm) &&& ~~~1#64)]) := by
 refine Co func53 G G ?_
 refine Sr (WL.box (v := .agg #[U8 4#8, U8 rd, U8 rs1, U8 rs2, I64 imm]) G G ?_)
 intro b4 w4 n4
 have E1 : Ext w w4 := n4.ext
 refine Ae (U64 0#64) (Ae (U64 0#64) (Ni (Sr (Fa G fo48_4 (Le (n4.blk.cell (j := 4) G) (Cv G (ConvR.i64u64 y2 y39) (Me (U64 pc) (Bn (vy := U64 4#64) G G BinR.addU64 (Ae (U64 imm) (Ae (U64 ((pc + 4#64))) (Ni (Sq (Sr (Fa G fo48_0 (Le (n4.blk.cell (j := 0) G) (Me (U64 x) (Me (U64 y) (Ca (jumps_z 4#8 (by decide) x y _) ?_))))))))))))))))))
 rintro _ wj ⟨rfl, ej⟩
 have E2 := Mt E1 ej
 refine Me (.tuple #[.bool false, .bool false]) (Et G G (Et G G (Ae (.bool false) (Ae (.bool false) (Ni (Sr (Me (.bool false) (Ni (Cf G (WC.skip (Sq (Sr (Fa G fo48_0 ?_)))))))))))))
 have B3 := n4.blk.ext ej
 refine Le (B3.cell (j := 0) G) (Ni (Bk (Sq (Nu 1 (Sq (Nu 2 (Sq (Nu 3 (Sq (Eu 4 (Sr (Me (U64 ((pc + 4#64))) (Me (U64 x) (Me (U64 imm) (Bn G G BinR.addU64 (Bn (vy := U64 1#64) G G BinR.andNotU64 (Ae (U64 ((pc + 4#64))) (Ae (U64 ((x + imm) &&& ~~~1#64)) ?_))))))))))))))))))
 refine Ni (WC.ret ?_)
 exact ⟨_, Rp G G G, G, E2⟩
theorem do_5 (rd rs1 rs2 : BitVec 8) (imm pc x y : BitVec 64) (w : World) : Cx 53 #[.agg #[U8 5#8, U8 rd, U8 rs1, U8 rs2, I64 imm], U64 pc, U64 x, U64 y] w (.tuple #[U64 0#64, U64 (if (x == y) then pc + imm else pc + 4#64)]) := by
 refine Co func53 G G ?_
 refine Sr (WL.box (v := .agg #[U8 5#8, U8 rd, U8 rs1, U8 rs2, I64 imm]) G G ?_)
 intro b4 w4 n4
 have E1 : Ext w w4 := n4.ext
 refine Ae (U64 0#64) (Ae (U64 0#64) (Ni (Sr (Fa G fo48_4 (Le (n4.blk.cell (j := 4) G) (Cv G (ConvR.i64u64 y2 y39) (Me (U64 pc) (Bn (vy := U64 4#64) G G BinR.addU64 (Ae (U64 imm) (Ae (U64 ((pc + 4#64))) (Ni (Sq (Sr (Fa G fo48_0 (Le (n4.blk.cell (j := 0) G) (Me (U64 x) (Me (U64 y) (Ca (jumps_5 x y _) ?_))))))))))))))))))
 rintro _ wj ⟨rfl, ej⟩
 have E2 := Mt E1 ej
 refine Me (.tuple #[.bool ((x == y)), .bool true]) (Et G G (Et G G (Ae (.bool ((x == y))) (Ae (.bool true) (Ni (Sr (Me (.bool true) (Ni (Ct G (Sq (Sr (Me (.bool ((x == y))) (Ni ?_)))))))))))))
 refine WC.cond G (fun hc29 => ?_) (fun hc29 => ?_)
 ·refine Rg (Me (U64 pc) (Me (U64 imm) (Bn G G BinR.addU64 (Ae (U64 ((pc + imm))) (Ni (Sr (Me (U64 ((pc + imm))) (Ae (U64 0#64) (Ae (U64 ((pc + imm))) (Ni (WC.ret ?_)))))))))))
  exact ⟨_, Res.two (v := U64 0#64) (v' := U64 ((pc + imm))) G G G, (by rw [hc29]; rfl), E2⟩
 ·refine WC.skip (Sr (Me (U64 ((pc + 4#64))) (Ae (U64 0#64) (Ae (U64 ((pc + 4#64))) (Ni (WC.ret ?_))))))
  exact ⟨_, Res.two (v := U64 0#64) (v' := U64 ((pc + 4#64))) G G G, (by rw [hc29]; rfl), E2⟩
theorem do_6 (rd rs1 rs2 : BitVec 8) (imm pc x y : BitVec 64) (w : World) : Cx 53 #[.agg #[U8 6#8, U8 rd, U8 rs1, U8 rs2, I64 imm], U64 pc, U64 x, U64 y] w (.tuple #[U64 0#64, U64 (if (x != y) then pc + imm else pc + 4#64)]) := by
 refine Co func53 G G ?_
 refine Sr (WL.box (v := .agg #[U8 6#8, U8 rd, U8 rs1, U8 rs2, I64 imm]) G G ?_)
 intro b4 w4 n4
 have E1 : Ext w w4 := n4.ext
 refine Ae (U64 0#64) (Ae (U64 0#64) (Ni (Sr (Fa G fo48_4 (Le (n4.blk.cell (j := 4) G) (Cv G (ConvR.i64u64 y2 y39) (Me (U64 pc) (Bn (vy := U64 4#64) G G BinR.addU64 (Ae (U64 imm) (Ae (U64 ((pc + 4#64))) (Ni (Sq (Sr (Fa G fo48_0 (Le (n4.blk.cell (j := 0) G) (Me (U64 x) (Me (U64 y) (Ca (jumps_6 x y _) ?_))))))))))))))))))
 rintro _ wj ⟨rfl, ej⟩
 have E2 := Mt E1 ej
 refine Me (.tuple #[.bool ((x != y)), .bool true]) (Et G G (Et G G (Ae (.bool ((x != y))) (Ae (.bool true) (Ni (Sr (Me (.bool true) (Ni (Ct G (Sq (Sr (Me (.bool ((x != y))) (Ni ?_)))))))))))))
 refine WC.cond G (fun hc29 => ?_) (fun hc29 => ?_)
 ·refine Rg (Me (U64 pc) (Me (U64 imm) (Bn G G BinR.addU64 (Ae (U64 ((pc + imm))) (Ni (Sr (Me (U64 ((pc + imm))) (Ae (U64 0#64) (Ae (U64 ((pc + imm))) (Ni (WC.ret ?_)))))))))))
  exact ⟨_, Res.two (v := U64 0#64) (v' := U64 ((pc + imm))) G G G, (by rw [hc29]; rfl), E2⟩
 ·refine WC.skip (Sr (Me (U64 ((pc + 4#64))) (Ae (U64 0#64) (Ae (U64 ((pc + 4#64))) (Ni (WC.ret ?_))))))
  exact ⟨_, Res.two (v := U64 0#64) (v' := U64 ((pc + 4#64))) G G G, (by rw [hc29]; rfl), E2⟩
theorem do_7 (rd rs1 rs2 : BitVec 8) (imm pc x y : BitVec 64) (w : World) : Cx 53 #[.agg #[U8 7#8, U8 rd, U8 rs1, U8 rs2, I64 imm], U64 pc, U64 x, U64 y] w (.tuple #[U64 0#64, U64 (if BitVec.slt x y then pc + imm else pc + 4#64)]) := by
 refine Co func53 G G ?_
 refine Sr (WL.box (v := .agg #[U8 7#8, U8 rd, U8 rs1, U8 rs2, I64 imm]) G G ?_)
 intro b4 w4 n4
 have E1 : Ext w w4 := n4.ext
 refine Ae (U64 0#64) (Ae (U64 0#64) (Ni (Sr (Fa G fo48_4 (Le (n4.blk.cell (j := 4) G) (Cv G (ConvR.i64u64 y2 y39) (Me (U64 pc) (Bn (vy := U64 4#64) G G BinR.addU64 (Ae (U64 imm) (Ae (U64 ((pc + 4#64))) (Ni (Sq (Sr (Fa G fo48_0 (Le (n4.blk.cell (j := 0) G) (Me (U64 x) (Me (U64 y) (Ca (jumps_7 x y _) ?_))))))))))))))))))
 rintro _ wj ⟨rfl, ej⟩
 have E2 := Mt E1 ej
 refine Me (.tuple #[.bool (BitVec.slt x y), .bool true]) (Et G G (Et G G (Ae (.bool (BitVec.slt x y)) (Ae (.bool true) (Ni (Sr (Me (.bool true) (Ni (Ct G (Sq (Sr (Me (.bool (BitVec.slt x y)) (Ni ?_)))))))))))))
 refine WC.cond G (fun hc29 => ?_) (fun hc29 => ?_)
 ·refine Rg (Me (U64 pc) (Me (U64 imm) (Bn G G BinR.addU64 (Ae (U64 ((pc + imm))) (Ni (Sr (Me (U64 ((pc + imm))) (Ae (U64 0#64) (Ae (U64 ((pc + imm))) (Ni (WC.ret ?_)))))))))))
  exact ⟨_, Res.two (v := U64 0#64) (v' := U64 ((pc + imm))) G G G, (by rw [hc29]; rfl), E2⟩
 ·refine WC.skip (Sr (Me (U64 ((pc + 4#64))) (Ae (U64 0#64) (Ae (U64 ((pc + 4#64))) (Ni (WC.ret ?_))))))
  exact ⟨_, Res.two (v := U64 0#64) (v' := U64 ((pc + 4#64))) G G G, (by rw [hc29]; rfl), E2⟩
theorem do_8 (rd rs1 rs2 : BitVec 8) (imm pc x y : BitVec 64) (w : World) : Cx 53 #[.agg #[U8 8#8, U8 rd, U8 rs1, U8 rs2, I64 imm], U64 pc, U64 x, U64 y] w (.tuple #[U64 0#64, U64 (if BitVec.sle y x then pc + imm else pc + 4#64)]) := by
 refine Co func53 G G ?_
 refine Sr (WL.box (v := .agg #[U8 8#8, U8 rd, U8 rs1, U8 rs2, I64 imm]) G G ?_)
 intro b4 w4 n4
 have E1 : Ext w w4 := n4.ext
 refine Ae (U64 0#64) (Ae (U64 0#64) (Ni (Sr (Fa G fo48_4 (Le (n4.blk.cell (j := 4) G) (Cv G (ConvR.i64u64 y2 y39) (Me (U64 pc) (Bn (vy := U64 4#64) G G BinR.addU64 (Ae (U64 imm) (Ae (U64 ((pc + 4#64))) (Ni (Sq (Sr (Fa G fo48_0 (Le (n4.blk.cell (j := 0) G) (Me (U64 x) (Me (U64 y) (Ca (jumps_8 x y _) ?_))))))))))))))))))
 rintro _ wj ⟨rfl, ej⟩
 have E2 := Mt E1 ej
 refine Me (.tuple #[.bool (BitVec.sle y x), .bool true]) (Et G G (Et G G (Ae (.bool (BitVec.sle y x)) (Ae (.bool true) (Ni (Sr (Me (.bool true) (Ni (Ct G (Sq (Sr (Me (.bool (BitVec.sle y x)) (Ni ?_)))))))))))))
 refine WC.cond G (fun hc29 => ?_) (fun hc29 => ?_)
 ·refine Rg (Me (U64 pc) (Me (U64 imm) (Bn G G BinR.addU64 (Ae (U64 ((pc + imm))) (Ni (Sr (Me (U64 ((pc + imm))) (Ae (U64 0#64) (Ae (U64 ((pc + imm))) (Ni (WC.ret ?_)))))))))))
  exact ⟨_, Res.two (v := U64 0#64) (v' := U64 ((pc + imm))) G G G, (by rw [hc29]; rfl), E2⟩
 ·refine WC.skip (Sr (Me (U64 ((pc + 4#64))) (Ae (U64 0#64) (Ae (U64 ((pc + 4#64))) (Ni (WC.ret ?_))))))
  exact ⟨_, Res.two (v := U64 0#64) (v' := U64 ((pc + 4#64))) G G G, (by rw [hc29]; rfl), E2⟩
theorem do_9 (rd rs1 rs2 : BitVec 8) (imm pc x y : BitVec 64) (w : World) : Cx 53 #[.agg #[U8 9#8, U8 rd, U8 rs1, U8 rs2, I64 imm], U64 pc, U64 x, U64 y] w (.tuple #[U64 0#64, U64 (if BitVec.ult x y then pc + imm else pc + 4#64)]) := by
 refine Co func53 G G ?_
 refine Sr (WL.box (v := .agg #[U8 9#8, U8 rd, U8 rs1, U8 rs2, I64 imm]) G G ?_)
 intro b4 w4 n4
 have E1 : Ext w w4 := n4.ext
 refine Ae (U64 0#64) (Ae (U64 0#64) (Ni (Sr (Fa G fo48_4 (Le (n4.blk.cell (j := 4) G) (Cv G (ConvR.i64u64 y2 y39) (Me (U64 pc) (Bn (vy := U64 4#64) G G BinR.addU64 (Ae (U64 imm) (Ae (U64 ((pc + 4#64))) (Ni (Sq (Sr (Fa G fo48_0 (Le (n4.blk.cell (j := 0) G) (Me (U64 x) (Me (U64 y) (Ca (jumps_9 x y _) ?_))))))))))))))))))
 rintro _ wj ⟨rfl, ej⟩
 have E2 := Mt E1 ej
 refine Me (.tuple #[.bool (BitVec.ult x y), .bool true]) (Et G G (Et G G (Ae (.bool (BitVec.ult x y)) (Ae (.bool true) (Ni (Sr (Me (.bool true) (Ni (Ct G (Sq (Sr (Me (.bool (BitVec.ult x y)) (Ni ?_)))))))))))))
 refine WC.cond G (fun hc29 => ?_) (fun hc29 => ?_)
 ·refine Rg (Me (U64 pc) (Me (U64 imm) (Bn G G BinR.addU64 (Ae (U64 ((pc + imm))) (Ni (Sr (Me (U64 ((pc + imm))) (Ae (U64 0#64) (Ae (U64 ((pc + imm))) (Ni (WC.ret ?_)))))))))))
  exact ⟨_, Res.two (v := U64 0#64) (v' := U64 ((pc + imm))) G G G, (by rw [hc29]; rfl), E2⟩
 ·refine WC.skip (Sr (Me (U64 ((pc + 4#64))) (Ae (U64 0#64) (Ae (U64 ((pc + 4#64))) (Ni (WC.ret ?_))))))
  exact ⟨_, Res.two (v := U64 0#64) (v' := U64 ((pc + 4#64))) G G G, (by rw [hc29]; rfl), E2⟩
theorem do_10 (rd rs1 rs2 : BitVec 8) (imm pc x y : BitVec 64) (w : World) : Cx 53 #[.agg #[U8 10#8, U8 rd, U8 rs1, U8 rs2, I64 imm], U64 pc, U64 x, U64 y] w (.tuple #[U64 0#64, U64 (if BitVec.ule y x then pc + imm else pc + 4#64)]) := by
 refine Co func53 G G ?_
 refine Sr (WL.box (v := .agg #[U8 10#8, U8 rd, U8 rs1, U8 rs2, I64 imm]) G G ?_)
 intro b4 w4 n4
 have E1 : Ext w w4 := n4.ext
 refine Ae (U64 0#64) (Ae (U64 0#64) (Ni (Sr (Fa G fo48_4 (Le (n4.blk.cell (j := 4) G) (Cv G (ConvR.i64u64 y2 y39) (Me (U64 pc) (Bn (vy := U64 4#64) G G BinR.addU64 (Ae (U64 imm) (Ae (U64 ((pc + 4#64))) (Ni (Sq (Sr (Fa G fo48_0 (Le (n4.blk.cell (j := 0) G) (Me (U64 x) (Me (U64 y) (Ca (jumps_10 x y _) ?_))))))))))))))))))
 rintro _ wj ⟨rfl, ej⟩
 have E2 := Mt E1 ej
 refine Me (.tuple #[.bool (BitVec.ule y x), .bool true]) (Et G G (Et G G (Ae (.bool (BitVec.ule y x)) (Ae (.bool true) (Ni (Sr (Me (.bool true) (Ni (Ct G (Sq (Sr (Me (.bool (BitVec.ule y x)) (Ni ?_)))))))))))))
 refine WC.cond G (fun hc29 => ?_) (fun hc29 => ?_)
 ·refine Rg (Me (U64 pc) (Me (U64 imm) (Bn G G BinR.addU64 (Ae (U64 ((pc + imm))) (Ni (Sr (Me (U64 ((pc + imm))) (Ae (U64 0#64) (Ae (U64 ((pc + imm))) (Ni (WC.ret ?_)))))))))))
  exact ⟨_, Res.two (v := U64 0#64) (v' := U64 ((pc + imm))) G G G, (by rw [hc29]; rfl), E2⟩
 ·refine WC.skip (Sr (Me (U64 ((pc + 4#64))) (Ae (U64 0#64) (Ae (U64 ((pc + 4#64))) (Ni (WC.ret ?_))))))
  exact ⟨_, Res.two (v := U64 0#64) (v' := U64 ((pc + 4#64))) G G G, (by rw [hc29]; rfl), E2⟩
theorem do_22 (rd rs1 rs2 : BitVec 8) (imm pc x y : BitVec 64) (w : World) : Cx 53 #[.agg #[U8 22#8, U8 rd, U8 rs1, U8 rs2, I64 imm], U64 pc, U64 x, U64 y] w (.tuple #[U64 ((fun x y => x + y) x imm), U64 (pc + 4#64)]) := by
 refine Co func53 G G ?_
 refine Sr (WL.box (v := .agg #[U8 22#8, U8 rd, U8 rs1, U8 rs2, I64 imm]) G G ?_)
 intro b4 w4 n4
 have E1 : Ext w w4 := n4.ext
 refine Ae (U64 0#64) (Ae (U64 0#64) (Ni (Sr (Fa G fo48_4 (Le (n4.blk.cell (j := 4) G) (Cv G (ConvR.i64u64 y2 y39) (Me (U64 pc) (Bn (vy := U64 4#64) G G BinR.addU64 (Ae (U64 imm) (Ae (U64 ((pc + 4#64))) (Ni (Sq (Sr (Fa G fo48_0 (Le (n4.blk.cell (j := 0) G) (Me (U64 x) (Me (U64 y) (Ca (jumps_z 22#8 (by decide) x y _) ?_))))))))))))))))))
 rintro _ wj ⟨rfl, ej⟩
 have E2 := Mt E1 ej
 refine Me (.tuple #[.bool false, .bool false]) (Et G G (Et G G (Ae (.bool false) (Ae (.bool false) (Ni (Sr (Me (.bool false) (Ni (Cf G (WC.skip (Sq (Sr (Fa G fo48_0 ?_)))))))))))))
 have B3 := n4.blk.ext ej
 refine Le (B3.cell (j := 0) G) (Ni (Bk (Sq (Nu 1 (Sq (Nu 2 (Sq (Nu 3 (Sq (Nu 4 (WC.skip (Sr (Fa G fo48_0 (Le (B3.cell (j := 0) G) (Ca (reckons_22 _) ?_)))))))))))))))
 rintro _ wr ⟨⟨g, cs, rfl, hcal, hcl⟩, er⟩
 have E4 := Mt E2 er
 refine Ae (.func (.func g) #[] cs) (Ni (Sq (Sr (Me (.func (.func g) #[] cs) (Bn G G (BinR.eqlFnil y178) (Ni (Cf G (WC.skip (Sq (Sr (Fa G fo48_0 ?_)))))))))))
 have B5 := B3.ext er
 refine Le (B5.cell (j := 0) G) (Ni (Bk (Sq (Sq (Eu 22 (WC.skip (Ct G (Rg (Me (U64 imm) (Ae (U64 imm) (Ni (Sr (Me (.func (.func g) #[] cs) (Me (U64 x) (Me (U64 imm) (WL.callV (fs := #[]) (cs := cs) G hcal G G (hcl _ (Mod.refl _ _) x imm) ?_))))))))))))))))
 rintro _ wc ⟨rfl, ec⟩
 have E7 := Mt E4 ec
 refine Me (U64 ((pc + 4#64))) (Ae (U64 ((fun x y => x + y) x imm)) (Ae (U64 ((pc + 4#64))) (Ni (WC.ret ?_))))
 exact ⟨_, Rp G G G, G, E7⟩
theorem do_23 (rd rs1 rs2 : BitVec 8) (imm pc x y : BitVec 64) (w : World) : Cx 53 #[.agg #[U8 23#8, U8 rd, U8 rs1, U8 rs2, I64 imm], U64 pc, U64 x, U64 y] w (.tuple #[U64 ((fun x y => bitW (BitVec.slt x y)) x imm), U64 (pc + 4#64)]) := by
 refine Co func53 G G ?_
 refine Sr (WL.box (v := .agg #[U8 23#8, U8 rd, U8 rs1, U8 rs2, I64 imm]) G G ?_)
 intro b4 w4 n4
 have E1 : Ext w w4 := n4.ext
 refine Ae (U64 0#64) (Ae (U64 0#64) (Ni (Sr (Fa G fo48_4 (Le (n4.blk.cell (j := 4) G) (Cv G (ConvR.i64u64 y2 y39) (Me (U64 pc) (Bn (vy := U64 4#64) G G BinR.addU64 (Ae (U64 imm) (Ae (U64 ((pc + 4#64))) (Ni (Sq (Sr (Fa G fo48_0 (Le (n4.blk.cell (j := 0) G) (Me (U64 x) (Me (U64 y) (Ca (jumps_z 23#8 (by decide) x y _) ?_))))))))))))))))))
 rintro _ wj ⟨rfl, ej⟩
 have E2 := Mt E1 ej
 refine Me (.tuple #[.bool false, .bool false]) (Et G G (Et G G (Ae (.bool false) (Ae (.bool false) (Ni (Sr (Me (.bool false) (Ni (Cf G (WC.skip (Sq (Sr (Fa G fo48_0 ?_)))))))))))))
 have B3 := n4.blk.ext ej
 refine Le (B3.cell (j := 0) G) (Ni (Bk (Sq (Nu 1 (Sq (Nu 2 (Sq (Nu 3 (Sq (Nu 4 (WC.skip (Sr (Fa G fo48_0 (Le (B3.cell (j := 0) G) (Ca (reckons_23 _) ?_)))))))))))))))
 rintro _ wr ⟨⟨g, cs, rfl, hcal, hcl⟩, er⟩
 have E4 := Mt E2 er
 refine Ae (.func (.func g) #[] cs) (Ni (Sq (Sr (Me (.func (.func g) #[] cs) (Bn G G (BinR.eqlFnil y178) (Ni (Cf G (WC.skip (Sq (Sr (Fa G fo48_0 ?_)))))))))))
 have B5 := B3.ext er
 refine Le (B5.cell (j := 0) G) (Ni (Bk (Sq (Sq (Nu 22 (Sq (Eu 23 (WC.skip (Ct G (Rg (Me (U64 imm) (Ae (U64 imm) (Ni (Sr (Me (.func (.func g) #[] cs) (Me (U64 x) (Me (U64 imm) (WL.callV (fs := #[]) (cs := cs) G hcal G G (hcl _ (Mod.refl _ _) x imm) ?_))))))))))))))))))
 rintro _ wc ⟨rfl, ec⟩
 have E7 := Mt E4 ec
 refine Me (U64 ((pc + 4#64))) (Ae (U64 ((fun x y => bitW (BitVec.slt x y)) x imm)) (Ae (U64 ((pc + 4#64))) (Ni (WC.ret ?_))))
 exact ⟨_, Rp G G G, G, E7⟩
theorem do_24 (rd rs1 rs2 : BitVec 8) (imm pc x y : BitVec 64) (w : World) : Cx 53 #[.agg #[U8 24#8, U8 rd, U8 rs1, U8 rs2, I64 imm], U64 pc, U64 x, U64 y] w (.tuple #[U64 ((fun x y => bitW (BitVec.ult x y)) x imm), U64 (pc + 4#64)]) := by
 refine Co func53 G G ?_
 refine Sr (WL.box (v := .agg #[U8 24#8, U8 rd, U8 rs1, U8 rs2, I64 imm]) G G ?_)
 intro b4 w4 n4
 have E1 : Ext w w4 := n4.ext
 refine Ae (U64 0#64) (Ae (U64 0#64) (Ni (Sr (Fa G fo48_4 (Le (n4.blk.cell (j := 4) G) (Cv G (ConvR.i64u64 y2 y39) (Me (U64 pc) (Bn (vy := U64 4#64) G G BinR.addU64 (Ae (U64 imm) (Ae (U64 ((pc + 4#64))) (Ni (Sq (Sr (Fa G fo48_0 (Le (n4.blk.cell (j := 0) G) (Me (U64 x) (Me (U64 y) (Ca (jumps_z 24#8 (by decide) x y _) ?_))))))))))))))))))
 rintro _ wj ⟨rfl, ej⟩
 have E2 := Mt E1 ej
 refine Me (.tuple #[.bool false, .bool false]) (Et G G (Et G G (Ae (.bool false) (Ae (.bool false) (Ni (Sr (Me (.bool false) (Ni (Cf G (WC.skip (Sq (Sr (Fa G fo48_0 ?_)))))))))))))
 have B3 := n4.blk.ext ej
 refine Le (B3.cell (j := 0) G) (Ni (Bk (Sq (Nu 1 (Sq (Nu 2 (Sq (Nu 3 (Sq (Nu 4 (WC.skip (Sr (Fa G fo48_0 (Le (B3.cell (j := 0) G) (Ca (reckons_24 _) ?_)))))))))))))))
 rintro _ wr ⟨⟨g, cs, rfl, hcal, hcl⟩, er⟩
 have E4 := Mt E2 er
 refine Ae (.func (.func g) #[] cs) (Ni (Sq (Sr (Me (.func (.func g) #[] cs) (Bn G G (BinR.eqlFnil y178) (Ni (Cf G (WC.skip (Sq (Sr (Fa G fo48_0 ?_)))))))))))
 have B5 := B3.ext er
 refine Le (B5.cell (j := 0) G) (Ni (Bk (Sq (Sq (Nu 22 (Sq (Nu 23 (Sq (Eu 24 (WC.skip (Ct G (Rg (Me (U64 imm) (Ae (U64 imm) (Ni (Sr (Me (.func (.func g) #[] cs) (Me (U64 x) ?_))))))))))))))))))
 refine Me (U64 imm) (WL.callV (fs := #[]) (cs := cs) G hcal G G (hcl _ (Mod.refl _ _) x imm) ?_)
 rintro _ wc ⟨rfl, ec⟩
 have E7 := Mt E4 ec
 refine Me (U64 ((pc + 4#64))) (Ae (U64 ((fun x y => bitW (BitVec.ult x y)) x imm)) (Ae (U64 ((pc + 4#64))) (Ni (WC.ret ?_))))
 exact ⟨_, Rp G G G, G, E7⟩
theorem do_25 (rd rs1 rs2 : BitVec 8) (imm pc x y : BitVec 64) (w : World) : Cx 53 #[.agg #[U8 25#8, U8 rd, U8 rs1, U8 rs2, I64 imm], U64 pc, U64 x, U64 y] w (.tuple #[U64 ((fun x y => x ^^^ y) x imm), U64 (pc + 4#64)]) := by
 refine Co func53 G G ?_
 refine Sr (WL.box (v := .agg #[U8 25#8, U8 rd, U8 rs1, U8 rs2, I64 imm]) G G ?_)
 intro b4 w4 n4
 have E1 : Ext w w4 := n4.ext
 refine Ae (U64 0#64) (Ae (U64 0#64) (Ni (Sr (Fa G fo48_4 (Le (n4.blk.cell (j := 4) G) (Cv G (ConvR.i64u64 y2 y39) (Me (U64 pc) (Bn (vy := U64 4#64) G G BinR.addU64 (Ae (U64 imm) (Ae (U64 ((pc + 4#64))) (Ni (Sq (Sr (Fa G fo48_0 (Le (n4.blk.cell (j := 0) G) (Me (U64 x) (Me (U64 y) (Ca (jumps_z 25#8 (by decide) x y _) ?_))))))))))))))))))
 rintro _ wj ⟨rfl, ej⟩
 have E2 := Mt E1 ej
 refine Me (.tuple #[.bool false, .bool false]) (Et G G (Et G G (Ae (.bool false) (Ae (.bool false) (Ni (Sr (Me (.bool false) (Ni (Cf G (WC.skip (Sq (Sr (Fa G fo48_0 ?_)))))))))))))
 have B3 := n4.blk.ext ej
 refine Le (B3.cell (j := 0) G) (Ni (Bk (Sq (Nu 1 (Sq (Nu 2 (Sq (Nu 3 (Sq (Nu 4 (WC.skip (Sr (Fa G fo48_0 (Le (B3.cell (j := 0) G) (Ca (reckons_25 _) ?_)))))))))))))))
 rintro _ wr ⟨⟨g, cs, rfl, hcal, hcl⟩, er⟩
 have E4 := Mt E2 er
 refine Ae (.func (.func g) #[] cs) (Ni (Sq (Sr (Me (.func (.func g) #[] cs) (Bn G G (BinR.eqlFnil y178) (Ni (Cf G (WC.skip (Sq (Sr (Fa G fo48_0 ?_)))))))))))
 have B5 := B3.ext er
 refine Le (B5.cell (j := 0) G) (Ni (Bk (Sq (Sq (Nu 22 (Sq (Nu 23 (Sq (Nu 24 (Sq (Eu 25 (WC.skip (Ct G (Rg (Me (U64 imm) (Ae (U64 imm) (Ni (Sr ?_))))))))))))))))))
 refine Me (.func (.func g) #[] cs) (Me (U64 x) (Me (U64 imm) (WL.callV (fs := #[]) (cs := cs) G hcal G G (hcl _ (Mod.refl _ _) x imm) ?_)))
 rintro _ wc ⟨rfl, ec⟩
 have E7 := Mt E4 ec
 refine Me (U64 ((pc + 4#64))) (Ae (U64 ((fun x y => x ^^^ y) x imm)) (Ae (U64 ((pc + 4#64))) (Ni (WC.ret ?_))))
 exact ⟨_, Rp G G G, G, E7⟩
theorem do_26 (rd rs1 rs2 : BitVec 8) (imm pc x y : BitVec 64) (w : World) : Cx 53 #[.agg #[U8 26#8, U8 rd, U8 rs1, U8 rs2, I64 imm], U64 pc, U64 x, U64 y] w (.tuple #[U64 ((fun x y => x ||| y) x imm), U64 (pc + 4#64)]) := by
 refine Co func53 G G ?_
 refine Sr (WL.box (v := .agg #[U8 26#8, U8 rd, U8 rs1, U8 rs2, I64 imm]) G G ?_)
 intro b4 w4 n4
 have E1 : Ext w w4 := n4.ext
 refine Ae (U64 0#64) (Ae (U64 0#64) (Ni (Sr (Fa G fo48_4 (Le (n4.blk.cell (j := 4) G) (Cv G (ConvR.i64u64 y2 y39) (Me (U64 pc) (Bn (vy := U64 4#64) G G BinR.addU64 (Ae (U64 imm) (Ae (U64 ((pc + 4#64))) (Ni (Sq (Sr (Fa G fo48_0 (Le (n4.blk.cell (j := 0) G) (Me (U64 x) (Me (U64 y) (Ca (jumps_z 26#8 (by decide) x y _) ?_))))))))))))))))))
 rintro _ wj ⟨rfl, ej⟩
 have E2 := Mt E1 ej
 refine Me (.tuple #[.bool false, .bool false]) (Et G G (Et G G (Ae (.bool false) (Ae (.bool false) (Ni (Sr (Me (.bool false) (Ni (Cf G (WC.skip (Sq (Sr (Fa G fo48_0 ?_)))))))))))))
 have B3 := n4.blk.ext ej
 refine Le (B3.cell (j := 0) G) (Ni (Bk (Sq (Nu 1 (Sq (Nu 2 (Sq (Nu 3 (Sq (Nu 4 (WC.skip (Sr (Fa G fo48_0 (Le (B3.cell (j := 0) G) (Ca (reckons_26 _) ?_)))))))))))))))
 rintro _ wr ⟨⟨g, cs, rfl, hcal, hcl⟩, er⟩
 have E4 := Mt E2 er
 refine Ae (.func (.func g) #[] cs) (Ni (Sq (Sr (Me (.func (.func g) #[] cs) (Bn G G (BinR.eqlFnil y178) (Ni (Cf G (WC.skip (Sq (Sr (Fa G fo48_0 ?_)))))))))))
 have B5 := B3.ext er
 refine Le (B5.cell (j := 0) G) (Ni (Bk (Sq (Sq (Nu 22 (Sq (Nu 23 (Sq (Nu 24 (Sq (Nu 25 (Sq (Eu 26 (WC.skip (Ct G (Rg (Me (U64 imm) (Ae (U64 imm) (Ni ?_)))))))))))))))))))
 refine Sr (Me (.func (.func g) #[] cs) (Me (U64 x) (Me (U64 imm) (WL.callV (fs := #[]) (cs := cs) G hcal G G (hcl _ (Mod.refl _ _) x imm) ?_))))
 rintro _ wc ⟨rfl, ec⟩
 have E7 := Mt E4 ec
 refine Me (U64 ((pc + 4#64))) (Ae (U64 ((fun x y => x ||| y) x imm)) (Ae (U64 ((pc + 4#64))) (Ni (WC.ret ?_))))
 exact ⟨_, Rp G G G, G, E7⟩
theorem do_27 (rd rs1 rs2 : BitVec 8) (imm pc x y : BitVec 64) (w : World) : Cx 53 #[.agg #[U8 27#8, U8 rd, U8 rs1, U8 rs2, I64 imm], U64 pc, U64 x, U64 y] w (.tuple #[U64 ((fun x y => x &&& y) x imm), U64 (pc + 4#64)]) := by
 refine Co func53 G G ?_
 refine Sr (WL.box (v := .agg #[U8 27#8, U8 rd, U8 rs1, U8 rs2, I64 imm]) G G ?_)
 intro b4 w4 n4
 have E1 : Ext w w4 := n4.ext
 refine Ae (U64 0#64) (Ae (U64 0#64) (Ni (Sr (Fa G fo48_4 (Le (n4.blk.cell (j := 4) G) (Cv G (ConvR.i64u64 y2 y39) (Me (U64 pc) (Bn (vy := U64 4#64) G G BinR.addU64 (Ae (U64 imm) (Ae (U64 ((pc + 4#64))) (Ni (Sq (Sr (Fa G fo48_0 (Le (n4.blk.cell (j := 0) G) (Me (U64 x) (Me (U64 y) (Ca (jumps_z 27#8 (by decide) x y _) ?_))))))))))))))))))
 rintro _ wj ⟨rfl, ej⟩
 have E2 := Mt E1 ej
 refine Me (.tuple #[.bool false, .bool false]) (Et G G (Et G G (Ae (.bool false) (Ae (.bool false) (Ni (Sr (Me (.bool false) (Ni (Cf G (WC.skip (Sq (Sr (Fa G fo48_0 ?_)))))))))))))
 have B3 := n4.blk.ext ej
 refine Le (B3.cell (j := 0) G) (Ni (Bk (Sq (Nu 1 (Sq (Nu 2 (Sq (Nu 3 (Sq (Nu 4 (WC.skip (Sr (Fa G fo48_0 (Le (B3.cell (j := 0) G) (Ca (reckons_27 _) ?_)))))))))))))))
 rintro _ wr ⟨⟨g, cs, rfl, hcal, hcl⟩, er⟩
 have E4 := Mt E2 er
 refine Ae (.func (.func g) #[] cs) (Ni (Sq (Sr (Me (.func (.func g) #[] cs) (Bn G G (BinR.eqlFnil y178) (Ni (Cf G (WC.skip (Sq (Sr (Fa G fo48_0 ?_)))))))))))
 have B5 := B3.ext er
 refine Le (B5.cell (j := 0) G) (Ni (Bk (Sq (Sq (Nu 22 (Sq (Nu 23 (Sq (Nu 24 (Sq (Nu 25 (Sq (Nu 26 (Sq (Eu 27 (WC.skip (Ct G (Rg (Me (U64 imm) ?_)))))))))))))))))))
 refine Ae (U64 imm) (Ni (Sr (Me (.func (.func g) #[] cs) (Me (U64 x) (Me (U64 imm) (WL.callV (fs := #[]) (cs := cs) G hcal G G (hcl _ (Mod.refl _ _) x imm) ?_))))))
 rintro _ wc ⟨rfl, ec⟩
 have E7 := Mt E4 ec
 refine Me (U64 ((pc + 4#64))) (Ae (U64 ((fun x y => x &&& y) x imm)) (Ae (U64 ((pc + 4#64))) (Ni (WC.ret ?_))))
 exact ⟨_, Rp G G G, G, E7⟩
theorem do_28 (rd rs1 rs2 : BitVec 8) (imm pc x y : BitVec 64) (w : World) : Cx 53 #[.agg #[U8 28#8, U8 rd, U8 rs1, U8 rs2, I64 imm], U64 pc, U64 x, U64 y] w (.tuple #[U64 (sllW x imm), U64 (pc + 4#64)]) := by
 refine Co func53 G G ?_
 refine Sr (WL.box (v := .agg #[U8 28#8, U8 rd, U8 rs1, U8 rs2, I64 imm]) G G ?_)
 intro b4 w4 n4
 have E1 : Ext w w4 := n4.ext
 refine Ae (U64 0#64) (Ae (U64 0#64) (Ni (Sr (Fa G fo48_4 (Le (n4.blk.cell (j := 4) G) (Cv G (ConvR.i64u64 y2 y39) (Me (U64 pc) (Bn (vy := U64 4#64) G G BinR.addU64 (Ae (U64 imm) (Ae (U64 ((pc + 4#64))) (Ni (Sq (Sr (Fa G fo48_0 (Le (n4.blk.cell (j := 0) G) (Me (U64 x) (Me (U64 y) (Ca (jumps_z 28#8 (by decide) x y _) ?_))))))))))))))))))
 rintro _ wj ⟨rfl, ej⟩
 have E2 := Mt E1 ej
 refine Me (.tuple #[.bool false, .bool false]) (Et G G (Et G G (Ae (.bool false) (Ae (.bool false) (Ni (Sr (Me (.bool false) (Ni (Cf G (WC.skip (Sq (Sr (Fa G fo48_0 ?_)))))))))))))
 have B3 := n4.blk.ext ej
 refine Le (B3.cell (j := 0) G) (Ni (Bk (Sq (Nu 1 (Sq (Nu 2 (Sq (Nu 3 (Sq (Nu 4 (WC.skip (Sr (Fa G fo48_0 (Le (B3.cell (j := 0) G) (Ca (reckons_28 _) ?_)))))))))))))))
 rintro _ wr ⟨⟨g, cs, rfl, hcal, hcl⟩, er⟩
 have E4 := Mt E2 er
 refine Ae (.func (.func g) #[] cs) (Ni (Sq (Sr (Me (.func (.func g) #[] cs) (Bn G G (BinR.eqlFnil y178) (Ni (Cf G (WC.skip (Sq (Sr (Fa G fo48_0 ?_)))))))))))
 have B5 := B3.ext er
 refine Le (B5.cell (j := 0) G) (Ni (Bk (Sq (Sq (Nu 22 (Sq (Nu 23 (Sq (Nu 24 (Sq (Nu 25 (Sq (Nu 26 (Sq (Nu 27 (Sq (Eu 28 (WC.skip (Ct G ?_)))))))))))))))))))
 refine Rg (Me (U64 imm) (Ae (U64 imm) (Ni (Sr (Me (.func (.func g) #[] cs) (Me (U64 x) (Me (U64 imm) (WL.callV (fs := #[]) (cs := cs) G hcal G G (hcl _ (Mod.refl _ _) x imm) ?_))))))))
 rintro _ wc ⟨rfl, ec⟩
 have E7 := Mt E4 ec
 refine Me (U64 ((pc + 4#64))) (Ae (U64 (sllW x imm)) (Ae (U64 ((pc + 4#64))) (Ni (WC.ret ?_))))
 exact ⟨_, Rp G G G, G, E7⟩
theorem do_29 (rd rs1 rs2 : BitVec 8) (imm pc x y : BitVec 64) (w : World) : Cx 53 #[.agg #[U8 29#8, U8 rd, U8 rs1, U8 rs2, I64 imm], U64 pc, U64 x, U64 y] w (.tuple #[U64 (srlW x imm), U64 (pc + 4#64)]) := by
 refine Co func53 G G ?_
 refine Sr (WL.box (v := .agg #[U8 29#8, U8 rd, U8 rs1, U8 rs2, I64 imm]) G G ?_)
 intro b4 w4 n4
 have E1 : Ext w w4 := n4.ext
 refine Ae (U64 0#64) (Ae (U64 0#64) (Ni (Sr (Fa G fo48_4 (Le (n4.blk.cell (j := 4) G) (Cv G (ConvR.i64u64 y2 y39) (Me (U64 pc) (Bn (vy := U64 4#64) G G BinR.addU64 (Ae (U64 imm) (Ae (U64 ((pc + 4#64))) (Ni (Sq (Sr (Fa G fo48_0 (Le (n4.blk.cell (j := 0) G) (Me (U64 x) (Me (U64 y) (Ca (jumps_z 29#8 (by decide) x y _) ?_))))))))))))))))))
 rintro _ wj ⟨rfl, ej⟩
 have E2 := Mt E1 ej
 refine Me (.tuple #[.bool false, .bool false]) (Et G G (Et G G (Ae (.bool false) (Ae (.bool false) (Ni (Sr (Me (.bool false) (Ni (Cf G (WC.skip (Sq (Sr (Fa G fo48_0 ?_)))))))))))))
 have B3 := n4.blk.ext ej
 refine Le (B3.cell (j := 0) G) (Ni (Bk (Sq (Nu 1 (Sq (Nu 2 (Sq (Nu 3 (Sq (Nu 4 (WC.skip (Sr (Fa G fo48_0 (Le (B3.cell (j := 0) G) (Ca (reckons_29 _) ?_)))))))))))))))
 rintro _ wr ⟨⟨g, cs, rfl, hcal, hcl⟩, er⟩
 have E4 := Mt E2 er
 refine Ae (.func (.func g) #[] cs) (Ni (Sq (Sr (Me (.func (.func g) #[] cs) (Bn G G (BinR.eqlFnil y178) (Ni (Cf G (WC.skip (Sq (Sr (Fa G fo48_0 ?_)))))))))))
 have B5 := B3.ext er
 refine Le (B5.cell (j := 0) G) (Ni (Bk (Sq (Sq (Nu 22 (Sq (Nu 23 (Sq (Nu 24 (Sq (Nu 25 (Sq (Nu 26 (Sq (Nu 27 (Sq (Nu 28 (Sq (Eu 29 ?_)))))))))))))))))))
 refine WC.skip (Ct G (Rg (Me (U64 imm) (Ae (U64 imm) (Ni (Sr (Me (.func (.func g) #[] cs) (Me (U64 x) (Me (U64 imm) (WL.callV (fs := #[]) (cs := cs) G hcal G G (hcl _ (Mod.refl _ _) x imm) ?_))))))))))
 rintro _ wc ⟨rfl, ec⟩
 have E7 := Mt E4 ec
 refine Me (U64 ((pc + 4#64))) (Ae (U64 (srlW x imm)) (Ae (U64 ((pc + 4#64))) (Ni (WC.ret ?_))))
 exact ⟨_, Rp G G G, G, E7⟩
theorem do_30 (rd rs1 rs2 : BitVec 8) (imm pc x y : BitVec 64) (w : World) : Cx 53 #[.agg #[U8 30#8, U8 rd, U8 rs1, U8 rs2, I64 imm], U64 pc, U64 x, U64 y] w (.tuple #[U64 (sraW x imm), U64 (pc + 4#64)]) := by
 refine Co func53 G G ?_
 refine Sr (WL.box (v := .agg #[U8 30#8, U8 rd, U8 rs1, U8 rs2, I64 imm]) G G ?_)
 intro b4 w4 n4
 have E1 : Ext w w4 := n4.ext
 refine Ae (U64 0#64) (Ae (U64 0#64) (Ni (Sr (Fa G fo48_4 (Le (n4.blk.cell (j := 4) G) (Cv G (ConvR.i64u64 y2 y39) (Me (U64 pc) (Bn (vy := U64 4#64) G G BinR.addU64 (Ae (U64 imm) (Ae (U64 ((pc + 4#64))) (Ni (Sq (Sr (Fa G fo48_0 (Le (n4.blk.cell (j := 0) G) (Me (U64 x) (Me (U64 y) (Ca (jumps_z 30#8 (by decide) x y _) ?_))))))))))))))))))
 rintro _ wj ⟨rfl, ej⟩
 have E2 := Mt E1 ej
 refine Me (.tuple #[.bool false, .bool false]) (Et G G (Et G G (Ae (.bool false) (Ae (.bool false) (Ni (Sr (Me (.bool false) (Ni (Cf G (WC.skip (Sq (Sr (Fa G fo48_0 ?_)))))))))))))
 have B3 := n4.blk.ext ej
 refine Le (B3.cell (j := 0) G) (Ni (Bk (Sq (Nu 1 (Sq (Nu 2 (Sq (Nu 3 (Sq (Nu 4 (WC.skip (Sr (Fa G fo48_0 (Le (B3.cell (j := 0) G) (Ca (reckons_30 _) ?_)))))))))))))))
 rintro _ wr ⟨⟨g, cs, rfl, hcal, hcl⟩, er⟩
 have E4 := Mt E2 er
 refine Ae (.func (.func g) #[] cs) (Ni (Sq (Sr (Me (.func (.func g) #[] cs) (Bn G G (BinR.eqlFnil y178) (Ni (Cf G (WC.skip (Sq (Sr (Fa G fo48_0 ?_)))))))))))
 have B5 := B3.ext er
 refine Le (B5.cell (j := 0) G) (Ni (Bk (Sq (Sq (Nu 22 (Sq (Nu 23 (Sq (Nu 24 (Sq (Nu 25 (Sq (Nu 26 (Sq (Nu 27 (Sq (Nu 28 (Sq (Nu 29 (Sr (Bt (vy := U8 30#8) G G BinR.eqlU8 (by decide) (Ae (.bool true) ?_))))))))))))))))))))))
 refine Ni (Ct G (WC.skip (Ct G (Rg (Me (U64 imm) (Ae (U64 imm) (Ni (Sr (Me (.func (.func g) #[] cs) (Me (U64 x) (Me (U64 imm) (WL.callV (fs := #[]) (cs := cs) G hcal G G (hcl _ (Mod.refl _ _) x imm) ?_))))))))))))
 rintro _ wc ⟨rfl, ec⟩
 have E7 := Mt E4 ec
 refine Me (U64 ((pc + 4#64))) (Ae (U64 (sraW x imm)) (Ae (U64 ((pc + 4#64))) (Ni (WC.ret ?_))))
 exact ⟨_, Rp G G G, G, E7⟩
theorem do_41 (rd rs1 rs2 : BitVec 8) (imm pc x y : BitVec 64) (w : World) : Cx 53 #[.agg #[U8 41#8, U8 rd, U8 rs1, U8 rs2, I64 imm], U64 pc, U64 x, U64 y] w (.tuple #[U64 ((signedF (fun x y => x + y)) x imm), U64 (pc + 4#64)]) := by
 refine Co func53 G G ?_
 refine Sr (WL.box (v := .agg #[U8 41#8, U8 rd, U8 rs1, U8 rs2, I64 imm]) G G ?_)
 intro b4 w4 n4
 have E1 : Ext w w4 := n4.ext
 refine Ae (U64 0#64) (Ae (U64 0#64) (Ni (Sr (Fa G fo48_4 (Le (n4.blk.cell (j := 4) G) (Cv G (ConvR.i64u64 y2 y39) (Me (U64 pc) (Bn (vy := U64 4#64) G G BinR.addU64 (Ae (U64 imm) (Ae (U64 ((pc + 4#64))) (Ni (Sq (Sr (Fa G fo48_0 (Le (n4.blk.cell (j := 0) G) (Me (U64 x) (Me (U64 y) (Ca (jumps_z 41#8 (by decide) x y _) ?_))))))))))))))))))
 rintro _ wj ⟨rfl, ej⟩
 have E2 := Mt E1 ej
 refine Me (.tuple #[.bool false, .bool false]) (Et G G (Et G G (Ae (.bool false) (Ae (.bool false) (Ni (Sr (Me (.bool false) (Ni (Cf G (WC.skip (Sq (Sr (Fa G fo48_0 ?_)))))))))))))
 have B3 := n4.blk.ext ej
 refine Le (B3.cell (j := 0) G) (Ni (Bk (Sq (Nu 1 (Sq (Nu 2 (Sq (Nu 3 (Sq (Nu 4 (WC.skip (Sr (Fa G fo48_0 (Le (B3.cell (j := 0) G) (Ca (reckons_41 _) ?_)))))))))))))))
 rintro _ wr ⟨⟨g, cs, rfl, hcal, hcl⟩, er⟩
 have E4 := Mt E2 er
 refine Ae (.func (.func g) #[] cs) (Ni (Sq (Sr (Me (.func (.func g) #[] cs) (Bn G G (BinR.eqlFnil y178) (Ni (Cf G (WC.skip (Sq (Sr (Fa G fo48_0 ?_)))))))))))
 have B5 := B3.ext er
 refine Le (B5.cell (j := 0) G) (Ni (Bk (Sq (Sq (Nu 22 (Sq (Nu 23 (Sq (Nu 24 (Sq (Nu 25 (Sq (Nu 26 (Sq (Nu 27 (Sq (Nu 28 (Sq (Nu 29 (Sq (Nu 30 (Sr ?_))))))))))))))))))))))
 refine Bt (vy := U8 41#8) G G BinR.eqlU8 (by decide) (Ae (.bool true) (Ni (Ct G (WC.skip (Ct G (Rg (Me (U64 imm) (Ae (U64 imm) (Ni (Sr (Me (.func (.func g) #[] cs) (Me (U64 x) (Me (U64 imm) (WL.callV (fs := #[]) (cs := cs) G hcal G G (hcl _ (Mod.refl _ _) x imm) ?_))))))))))))))
 rintro _ wc ⟨rfl, ec⟩
 have E7 := Mt E4 ec
 refine Me (U64 ((pc + 4#64))) (Ae (U64 ((signedF (fun x y => x + y)) x imm)) (Ae (U64 ((pc + 4#64))) (Ni (WC.ret ?_))))
 exact ⟨_, Rp G G G, G, E7⟩
theorem do_42 (rd rs1 rs2 : BitVec 8) (imm pc x y : BitVec 64) (w : World) : Cx 53 #[.agg #[U8 42#8, U8 rd, U8 rs1, U8 rs2, I64 imm], U64 pc, U64 x, U64 y] w (.tuple #[U64 ((movedF (signedF sllW)) x imm), U64 (pc + 4#64)]) := by
 refine Co func53 G G ?_
 refine Sr (WL.box (v := .agg #[U8 42#8, U8 rd, U8 rs1, U8 rs2, I64 imm]) G G ?_)
 intro b4 w4 n4
 have E1 : Ext w w4 := n4.ext
 refine Ae (U64 0#64) (Ae (U64 0#64) (Ni (Sr (Fa G fo48_4 (Le (n4.blk.cell (j := 4) G) (Cv G (ConvR.i64u64 y2 y39) (Me (U64 pc) (Bn (vy := U64 4#64) G G BinR.addU64 (Ae (U64 imm) (Ae (U64 ((pc + 4#64))) (Ni (Sq (Sr (Fa G fo48_0 (Le (n4.blk.cell (j := 0) G) (Me (U64 x) (Me (U64 y) (Ca (jumps_z 42#8 (by decide) x y _) ?_))))))))))))))))))
 rintro _ wj ⟨rfl, ej⟩
 have E2 := Mt E1 ej
 refine Me (.tuple #[.bool false, .bool false]) (Et G G (Et G G (Ae (.bool false) (Ae (.bool false) (Ni (Sr (Me (.bool false) (Ni (Cf G (WC.skip (Sq (Sr (Fa G fo48_0 ?_)))))))))))))
 have B3 := n4.blk.ext ej
 refine Le (B3.cell (j := 0) G) (Ni (Bk (Sq (Nu 1 (Sq (Nu 2 (Sq (Nu 3 (Sq (Nu 4 (WC.skip (Sr (Fa G fo48_0 (Le (B3.cell (j := 0) G) (Ca (reckons_42 _) ?_)))))))))))))))
 rintro _ wr ⟨⟨g, cs, rfl, hcal, hcl⟩, er⟩
 have E4 := Mt E2 er
 refine Ae (.func (.func g) #[] cs) (Ni (Sq (Sr (Me (.func (.func g) #[] cs) (Bn G G (BinR.eqlFnil y178) (Ni (Cf G (WC.skip (Sq (Sr (Fa G fo48_0 ?_)))))))))))
 have B5 := B3.ext er
 refine Le (B5.cell (j := 0) G) (Ni (Bk (Sq (Sq (Nu 22 (Sq (Nu 23 (Sq (Nu 24 (Sq (Nu 25 (Sq (Nu 26 (Sq (Nu 27 (Sq (Nu 28 (Sq (Nu 29 (Sq (Nu 30 (Sq (Nu 41 ?_)))))))))))))))))))))))
 refine Sq (Eu 42 (WC.skip (Ct G (Rg (Me (U64 imm) (Ae (U64 imm) (Ni (Sr (Me (.func (.func g) #[] cs) (Me (U64 x) (Me (U64 imm) (WL.callV (fs := #[]) (cs := cs) G hcal G G (hcl _ (Mod.refl _ _) x imm) ?_))))))))))))
 rintro _ wc ⟨rfl, ec⟩
 have E7 := Mt E4 ec
 refine Me (U64 ((pc + 4#64))) (Ae (U64 ((movedF (signedF sllW)) x imm)) (Ae (U64 ((pc + 4#64))) (Ni (WC.ret ?_))))
 exact ⟨_, Rp G G G, G, E7⟩
theorem do_43 (rd rs1 rs2 : BitVec 8) (imm pc x y : BitVec 64) (w : World) : Cx 53 #[.agg #[U8 43#8, U8 rd, U8 rs1, U8 rs2, I64 imm], U64 pc, U64 x, U64 y] w (.tuple #[U64 ((movedF (unsignedF srlW)) x imm), U64 (pc + 4#64)]) := by
 refine Co func53 G G ?_
 refine Sr (WL.box (v := .agg #[U8 43#8, U8 rd, U8 rs1, U8 rs2, I64 imm]) G G ?_)
 intro b4 w4 n4
 have E1 : Ext w w4 := n4.ext
 refine Ae (U64 0#64) (Ae (U64 0#64) (Ni (Sr (Fa G fo48_4 (Le (n4.blk.cell (j := 4) G) (Cv G (ConvR.i64u64 y2 y39) (Me (U64 pc) (Bn (vy := U64 4#64) G G BinR.addU64 (Ae (U64 imm) (Ae (U64 ((pc + 4#64))) (Ni (Sq (Sr (Fa G fo48_0 (Le (n4.blk.cell (j := 0) G) (Me (U64 x) (Me (U64 y) (Ca (jumps_z 43#8 (by decide) x y _) ?_))))))))))))))))))
 rintro _ wj ⟨rfl, ej⟩
 have E2 := Mt E1 ej
 refine Me (.tuple #[.bool false, .bool false]) (Et G G (Et G G (Ae (.bool false) (Ae (.bool false) (Ni (Sr (Me (.bool false) (Ni (Cf G (WC.skip (Sq (Sr (Fa G fo48_0 ?_)))))))))))))
 have B3 := n4.blk.ext ej
 refine Le (B3.cell (j := 0) G) (Ni (Bk (Sq (Nu 1 (Sq (Nu 2 (Sq (Nu 3 (Sq (Nu 4 (WC.skip (Sr (Fa G fo48_0 (Le (B3.cell (j := 0) G) (Ca (reckons_43 _) ?_)))))))))))))))
 rintro _ wr ⟨⟨g, cs, rfl, hcal, hcl⟩, er⟩
 have E4 := Mt E2 er
 refine Ae (.func (.func g) #[] cs) (Ni (Sq (Sr (Me (.func (.func g) #[] cs) (Bn G G (BinR.eqlFnil y178) (Ni (Cf G (WC.skip (Sq (Sr (Fa G fo48_0 ?_)))))))))))
 have B5 := B3.ext er
 refine Le (B5.cell (j := 0) G) (Ni (Bk (Sq (Sq (Nu 22 (Sq (Nu 23 (Sq (Nu 24 (Sq (Nu 25 (Sq (Nu 26 (Sq (Nu 27 (Sq (Nu 28 (Sq (Nu 29 (Sq (Nu 30 (Sq (Nu 41 ?_)))))))))))))))))))))))
 refine Sq (Nu 42 (Sq (Eu 43 (WC.skip (Ct G (Rg (Me (U64 imm) (Ae (U64 imm) (Ni (Sr (Me (.func (.func g) #[] cs) (Me (U64 x) (Me (U64 imm) (WL.callV (fs := #[]) (cs := cs) G hcal G G (hcl _ (Mod.refl _ _) x imm) ?_))))))))))))))
 rintro _ wc ⟨rfl, ec⟩
 have E7 := Mt E4 ec
 refine Me (U64 ((pc + 4#64))) (Ae (U64 ((movedF (unsignedF srlW)) x imm)) (Ae (U64 ((pc + 4#64))) (Ni (WC.ret ?_))))
 exact ⟨_, Rp G G G, G, E7⟩
theorem do_44 (rd rs1 rs2 : BitVec 8) (imm pc x y : BitVec 64) (w : World) : Cx 53 #[.agg #[U8 44#8, U8 rd, U8 rs1, U8 rs2, I64 imm], U64 pc, U64 x, U64 y] w (.tuple #[U64 ((movedF (signedF sraW)) x imm), U64 (pc + 4#64)]) := by
 refine Co func53 G G ?_
 refine Sr (WL.box (v := .agg #[U8 44#8, U8 rd, U8 rs1, U8 rs2, I64 imm]) G G ?_)
 intro b4 w4 n4
 have E1 : Ext w w4 := n4.ext
 refine Ae (U64 0#64) (Ae (U64 0#64) (Ni (Sr (Fa G fo48_4 (Le (n4.blk.cell (j := 4) G) (Cv G (ConvR.i64u64 y2 y39) (Me (U64 pc) (Bn (vy := U64 4#64) G G BinR.addU64 (Ae (U64 imm) (Ae (U64 ((pc + 4#64))) (Ni (Sq (Sr (Fa G fo48_0 (Le (n4.blk.cell (j := 0) G) (Me (U64 x) (Me (U64 y) (Ca (jumps_z 44#8 (by decide) x y _) ?_))))))))))))))))))
 rintro _ wj ⟨rfl, ej⟩
 have E2 := Mt E1 ej
 refine Me (.tuple #[.bool false, .bool false]) (Et G G (Et G G (Ae (.bool false) (Ae (.bool false) (Ni (Sr (Me (.bool false) (Ni (Cf G (WC.skip (Sq (Sr (Fa G fo48_0 ?_)))))))))))))
 have B3 := n4.blk.ext ej
 refine Le (B3.cell (j := 0) G) (Ni (Bk (Sq (Nu 1 (Sq (Nu 2 (Sq (Nu 3 (Sq (Nu 4 (WC.skip (Sr (Fa G fo48_0 (Le (B3.cell (j := 0) G) (Ca (reckons_44 _) ?_)))))))))))))))
 rintro _ wr ⟨⟨g, cs, rfl, hcal, hcl⟩, er⟩
 have E4 := Mt E2 er
 refine Ae (.func (.func g) #[] cs) (Ni (Sq (Sr (Me (.func (.func g) #[] cs) (Bn G G (BinR.eqlFnil y178) (Ni (Cf G (WC.skip (Sq (Sr (Fa G fo48_0 ?_)))))))))))
 have B5 := B3.ext er
 refine Le (B5.cell (j := 0) G) (Ni (Bk (Sq (Sq (Nu 22 (Sq (Nu 23 (Sq (Nu 24 (Sq (Nu 25 (Sq (Nu 26 (Sq (Nu 27 (Sq (Nu 28 (Sq (Nu 29 (Sq (Nu 30 (Sq (Nu 41 ?_)))))))))))))))))))))))
 refine Sq (Nu 42 (Sq (Nu 43 (Eu 44 (Rg (Me (U64 imm) (Ae (U64 imm) (Ni (Sr (Me (.func (.func g) #[] cs) (Me (U64 x) (Me (U64 imm) (WL.callV (fs := #[]) (cs := cs) G hcal G G (hcl _ (Mod.refl _ _) x imm) ?_)))))))))))))
 rintro _ wc ⟨rfl, ec⟩
 have E7 := Mt E4 ec
 refine Me (U64 ((pc + 4#64))) (Ae (U64 ((movedF (signedF sraW)) x imm)) (Ae (U64 ((pc + 4#64))) (Ni (WC.ret ?_))))
 exact ⟨_, Rp G G G, G, E7⟩
end Go.Proofs.N
end
section
set_option linter.unusedSimpArgs false
set_option linter.unusedVariables false
namespace Go.Proofs.N
open Go Go.Ux Go.Ux.Mach Go.Proofs
theorem loads_z (z : BitVec 8) (hz : ∀ c ∈ [11#8, 12#8, 13#8, 14#8, 15#8, 16#8, 17#8], (z == c) = false) (w : World) : Cx 68 #[U8 z] w (.tuple #[IN 0, .bool false]) := by
 refine Co Tryz.func68 G G ?_
 refine Sr (Ae (IN 0) (Ae (.bool false) (Ni (Sq (Sr (Me (U8 z) (Ni (Bk (Sq (Sq (Nz 11 hz (Sq (Nz 12 hz (Sq (Nz 13 hz (Nz 14 hz (Sq (Sq (Nz 15 hz (Sq (Nz 16 hz ?_)))))))))))))))))))))
 refine Nz 17 hz (WC.skip (Sr (Ae (IN 0) (Ae (.bool false) (Ni (WC.ret ?_))))))
 exact ⟨_, Rp G G G, G, Mod.refl _ _⟩
theorem loads_11 (w : World) : Cx 68 #[U8 11#8] w (.tuple #[IN 1, .bool true]) := by
 refine Co Tryz.func68 G G ?_
 refine Sr (Ae (IN 0) (Ae (.bool false) (Ni (Sq (Sr (Me (U8 11#8) (Ni (Bk (Sq (Sq (Eu 11 (WC.skip (Ct G (Sr (Me (U8 11#8) (Bn (vy := U8 11#8) G G BinR.subU8 ?_))))))))))))))))
 refine Bn (vx := I64 1#64) (vy := .int .u8 ((0 : Nat) : Int)) (v := I64 (1#64 <<< 0)) G G BinR.shl64 (Ae (IN 1) (Ae (.bool true) (Ni (WC.ret ?_))))
 exact ⟨_, Rp G G G, G, Mod.refl _ _⟩
theorem loads_12 (w : World) : Cx 68 #[U8 12#8] w (.tuple #[IN 2, .bool true]) := by
 refine Co Tryz.func68 G G ?_
 refine Sr (Ae (IN 0) (Ae (.bool false) (Ni (Sq (Sr (Me (U8 12#8) (Ni (Bk (Sq (Sq (Nu 11 (Sq (Eu 12 (WC.skip (Ct G (Sr ?_))))))))))))))))
 refine Me (U8 12#8) (Bn (vy := U8 11#8) G G BinR.subU8 (Bn (vx := I64 1#64) (vy := .int .u8 ((1 : Nat) : Int)) (v := I64 (1#64 <<< 1)) G G BinR.shl64 (Ae (IN 2) (Ae (.bool true) (Ni (WC.ret ?_))))))
 exact ⟨_, Rp G G G, G, Mod.refl _ _⟩
theorem loads_13 (w : World) : Cx 68 #[U8 13#8] w (.tuple #[IN 4, .bool true]) := by
 refine Co Tryz.func68 G G ?_
 refine Sr (Ae (IN 0) (Ae (.bool false) (Ni (Sq (Sr (Me (U8 13#8) (Ni (Bk (Sq (Sq (Nu 11 (Sq (Nu 12 (Sq (Eu 13 (WC.skip (Ct G ?_)))))))))))))))))
 refine Sr (Me (U8 13#8) (Bn (vy := U8 11#8) G G BinR.subU8 (Bn (vx := I64 1#64) (vy := .int .u8 ((2 : Nat) : Int)) (v := I64 (1#64 <<< 2)) G G BinR.shl64 (Ae (IN 4) (Ae (.bool true) (Ni (WC.ret ?_)))))))
 exact ⟨_, Rp G G G, G, Mod.refl _ _⟩
theorem loads_14 (w : World) : Cx 68 #[U8 14#8] w (.tuple #[IN 8, .bool true]) := by
 refine Co Tryz.func68 G G ?_
 refine Sr (Ae (IN 0) (Ae (.bool false) (Ni (Sq (Sr (Me (U8 14#8) (Ni (Bk (Sq (Sq (Nu 11 (Sq (Nu 12 (Sq (Nu 13 (Eu 14 (Sq ?_)))))))))))))))))
 refine Rg (Me (U8 14#8) (Bn (vy := U8 11#8) G G BinR.subU8 (Bn (vx := I64 1#64) (vy := .int .u8 ((3 : Nat) : Int)) (v := I64 (1#64 <<< 3)) G G BinR.shl64 (Ae (IN 8) (Ae (.bool true) (Ni (WC.ret ?_)))))))
 exact ⟨_, Rp G G G, G, Mod.refl _ _⟩
theorem loads_15 (w : World) : Cx 68 #[U8 15#8] w (.tuple #[IN 1, .bool false]) := by
 refine Co Tryz.func68 G G ?_
 refine Sr (Ae (IN 0) (Ae (.bool false) (Ni (Sq (Sr (Me (U8 15#8) (Ni (Bk (Sq (Sq (Nu 11 (Sq (Nu 12 (Sq (Nu 13 (Nu 14 (Sq (Sr (Bt (vy := U8 15#8) G G BinR.eqlU8 (by decide) (Ae (.bool true) ?_))))))))))))))))))))
 refine Ni (Ct G (WC.skip (Ct G (Sr (Me (U8 15#8) (Bn (vy := U8 15#8) G G BinR.subU8 (Bn (vx := I64 1#64) (vy := .int .u8 ((0 : Nat) : Int)) (v := I64 (1#64 <<< 0)) G G BinR.shl64 (Ae (IN 1) (Ae (.bool false) (Ni (WC.ret ?_)))))))))))
 exact ⟨_, Rp G G G, G, Mod.refl _ _⟩
theorem loads_16 (w : World) : Cx 68 #[U8 16#8] w (.tuple #[IN 2, .bool false]) := by
 refine Co Tryz.func68 G G ?_
 refine Sr (Ae (IN 0) (Ae (.bool false) (Ni (Sq (Sr (Me (U8 16#8) (Ni (Bk (Sq (Sq (Nu 11 (Sq (Nu 12 (Sq (Nu 13 (Nu 14 (Sq (Sq (Nu 15 (Sr ?_))))))))))))))))))))
 refine Bt (vy := U8 16#8) G G BinR.eqlU8 (by decide) (Ae (.bool true) (Ni (Ct G (WC.skip (Ct G (Sr (Me (U8 16#8) (Bn (vy := U8 15#8) G G BinR.subU8 (Bn (vx := I64 1#64) (vy := .int .u8 ((1 : Nat) : Int)) (v := I64 (1#64 <<< 1)) G G BinR.shl64 (Ae (IN 2) (Ae (.bool false) (Ni (WC.ret ?_)))))))))))))
 exact ⟨_, Rp G G G, G, Mod.refl _ _⟩
theorem loads_17 (w : World) : Cx 68 #[U8 17#8] w (.tuple #[IN 4, .bool false]) := by
 refine Co Tryz.func68 G G ?_
 refine Sr (Ae (IN 0) (Ae (.bool false) (Ni (Sq (Sr (Me (U8 17#8) (Ni (Bk (Sq (Sq (Nu 11 (Sq (Nu 12 (Sq (Nu 13 (Nu 14 (Sq (Sq (Nu 15 (Sq (Nu 16 ?_)))))))))))))))))))))
 refine Eu 17 (Sr (Me (U8 17#8) (Bn (vy := U8 15#8) G G BinR.subU8 (Bn (vx := I64 1#64) (vy := .int .u8 ((2 : Nat) : Int)) (v := I64 (1#64 <<< 2)) G G BinR.shl64 (Ae (IN 4) (Ae (.bool false) (Ni (WC.ret ?_))))))))
 exact ⟨_, Rp G G G, G, Mod.refl _ _⟩
end Go.Proofs.N
end
section
set_option linter.unusedSimpArgs false
set_option linter.unusedVariables false
namespace Go.Proofs.N
open Go Go.Ux Go.Ux.Mach Go.Proofs
def doM : Nat → BitVec 64 → BitVec 64 → BitVec 64 → BitVec 64 → BitVec 64 × BitVec 64
 | 1, imm, pc, x, y => (imm, pc + 4#64)
 | 2, imm, pc, x, y => (pc + imm, pc + 4#64)
 | 3, imm, pc, x, y => (pc + 4#64, pc + imm)
 | 4, imm, pc, x, y => (pc + 4#64, (x + imm) &&& ~~~1#64)
 | 5, imm, pc, x, y => (0#64, (if (x == y) then pc + imm else pc + 4#64))
 | 6, imm, pc, x, y => (0#64, (if (x != y) then pc + imm else pc + 4#64))
 | 7, imm, pc, x, y => (0#64, (if BitVec.slt (x) (y) then pc + imm else pc + 4#64))
 | 8, imm, pc, x, y => (0#64, (if BitVec.sle (y) (x) then pc + imm else pc + 4#64))
 | 9, imm, pc, x, y => (0#64, (if BitVec.ult (x) (y) then pc + imm else pc + 4#64))
 | 10, imm, pc, x, y => (0#64, (if BitVec.ule (y) (x) then pc + imm else pc + 4#64))
 | 11, imm, pc, x, y => (0#64, pc + 4#64)
 | 12, imm, pc, x, y => (0#64, pc + 4#64)
 | 13, imm, pc, x, y => (0#64, pc + 4#64)
 | 14, imm, pc, x, y => (0#64, pc + 4#64)
 | 15, imm, pc, x, y => (0#64, pc + 4#64)
 | 16, imm, pc, x, y => (0#64, pc + 4#64)
 | 17, imm, pc, x, y => (0#64, pc + 4#64)
 | 18, imm, pc, x, y => (0#64, pc + 4#64)
 | 19, imm, pc, x, y => (0#64, pc + 4#64)
 | 20, imm, pc, x, y => (0#64, pc + 4#64)
 | 21, imm, pc, x, y => (0#64, pc + 4#64)
 | 22, imm, pc, x, y => ((fun x y => x + y) x imm, pc + 4#64)
 | 23, imm, pc, x, y => ((fun x y => bitW (BitVec.slt x y)) x imm, pc + 4#64)
 | 24, imm, pc, x, y => ((fun x y => bitW (BitVec.ult x y)) x imm, pc + 4#64)
 | 25, imm, pc, x, y => ((fun x y => x ^^^ y) x imm, pc + 4#64)
 | 26, imm, pc, x, y => ((fun x y => x ||| y) x imm, pc + 4#64)
 | 27, imm, pc, x, y => ((fun x y => x &&& y) x imm, pc + 4#64)
 | 28, imm, pc, x, y => (sllW x imm, pc + 4#64)
 | 29, imm, pc, x, y => (srlW x imm, pc + 4#64)
 | 30, imm, pc, x, y => (sraW x imm, pc + 4#64)
 | 31, imm, pc, x, y => ((fun x y => x + y) x y, pc + 4#64)
 | 32, imm, pc, x, y => ((fun x y => x - y) x y, pc + 4#64)
 | 33, imm, pc, x, y => (sllW x y, pc + 4#64)
 | 34, imm, pc, x, y => ((fun x y => bitW (BitVec.slt x y)) x y, pc + 4#64)
 | 35, imm, pc, x, y => ((fun x y => bitW (BitVec.ult x y)) x y, pc + 4#64)
 | 36, imm, pc, x, y => ((fun x y => x ^^^ y) x y, pc + 4#64)
 | 37, imm, pc, x, y => (srlW x y, pc + 4#64)
 | 38, imm, pc, x, y => (sraW x y, pc + 4#64)
 | 39, imm, pc, x, y => ((fun x y => x ||| y) x y, pc + 4#64)
 | 40, imm, pc, x, y => ((fun x y => x &&& y) x y, pc + 4#64)
 | 41, imm, pc, x, y => ((signedF (fun x y => x + y)) x imm, pc + 4#64)
 | 42, imm, pc, x, y => ((movedF (signedF sllW)) x imm, pc + 4#64)
 | 43, imm, pc, x, y => ((movedF (unsignedF srlW)) x imm, pc + 4#64)
 | 44, imm, pc, x, y => ((movedF (signedF sraW)) x imm, pc + 4#64)
 | 45, imm, pc, x, y => ((signedF (fun x y => x + y)) x y, pc + 4#64)
 | 46, imm, pc, x, y => ((signedF (fun x y => x - y)) x y, pc + 4#64)
 | 47, imm, pc, x, y => ((movedF (signedF sllW)) x y, pc + 4#64)
 | 48, imm, pc, x, y => ((movedF (unsignedF srlW)) x y, pc + 4#64)
 | 49, imm, pc, x, y => ((movedF (signedF sraW)) x y, pc + 4#64)
 | 50, imm, pc, x, y => ((fun x y => x * y) x y, pc + 4#64)
 | 51, imm, pc, x, y => (mulhW x y, pc + 4#64)
 | 52, imm, pc, x, y => (mulhsuW x y, pc + 4#64)
 | 53, imm, pc, x, y => (hiW x y, pc + 4#64)
 | 54, imm, pc, x, y => (divW x y, pc + 4#64)
 | 55, imm, pc, x, y => (divuW x y, pc + 4#64)
 | 56, imm, pc, x, y => (remW x y, pc + 4#64)
 | 57, imm, pc, x, y => (remuW x y, pc + 4#64)
 | 58, imm, pc, x, y => ((signedF (fun x y => x * y)) x y, pc + 4#64)
 | 59, imm, pc, x, y => ((signedF divW) x y, pc + 4#64)
 | 60, imm, pc, x, y => ((unsignedF divuW) x y, pc + 4#64)
 | 61, imm, pc, x, y => ((signedF remW) x y, pc + 4#64)
 | 62, imm, pc, x, y => ((unsignedF remuW) x y, pc + 4#64)
 | 63, imm, pc, x, y => (0#64, pc + 4#64)
 | 64, imm, pc, x, y => (0#64, pc + 4#64)
 | 65, imm, pc, x, y => (0#64, pc + 4#64)
 | _, _, pc, _, _ => (0#64, pc + 4#64)
def loadsM : Nat → Nat × Bool
 | 11 => (1, true)
 | 12 => (2, true)
 | 13 => (4, true)
 | 14 => (8, true)
 | 15 => (1, false)
 | 16 => (2, false)
 | 17 => (4, false)
 | _ => (0, false)
theorem op_num (op : BitVec 8) (h1 : 1 ≤ op.toNat) (h2 : op.toNat < 66) : ∃ n, op = BitVec.ofNat 8 n ∧ 1 ≤ n ∧ n < 66 := ⟨op.toNat, by simp, h1, h2⟩
theorem num_op (n : Nat) (h : n < 66) : (BitVec.ofNat 8 n).toNat = n := by rw [BitVec.toNat_ofNat]; omega
theorem do_spec (op rd rs1 rs2 : BitVec 8) (imm pc x y : BitVec 64) (w : World) (h1 : 1 ≤ op.toNat) (h2 : op.toNat < 66) : Cx 53 #[.agg #[U8 op, U8 rd, U8 rs1, U8 rs2, I64 imm], U64 pc, U64 x, U64 y] w (.tuple #[U64 (doM op.toNat imm pc x y).1, U64 (doM op.toNat imm pc x y).2]) := by
 obtain ⟨n, rfl, k1, k2⟩ := op_num op h1 h2
 rw [num_op n k2]
 match n, k1, k2 with
 | 1, _, _ => exact do_1 rd rs1 rs2 imm pc x y w
 | 2, _, _ => exact do_2 rd rs1 rs2 imm pc x y w
 | 3, _, _ => exact do_3 rd rs1 rs2 imm pc x y w
 | 4, _, _ => exact do_4 rd rs1 rs2 imm pc x y w
 | 5, _, _ => exact do_5 rd rs1 rs2 imm pc x y w
 | 6, _, _ => exact do_6 rd rs1 rs2 imm pc x y w
 | 7, _, _ => exact do_7 rd rs1 rs2 imm pc x y w
 | 8, _, _ => exact do_8 rd rs1 rs2 imm pc x y w
 | 9, _, _ => exact do_9 rd rs1 rs2 imm pc x y w
 | 10, _, _ => exact do_10 rd rs1 rs2 imm pc x y w
 | 11, _, _ => exact do_none 11#8 (by decide) (by decide) reckons_11 rd rs1 rs2 imm pc x y w
 | 12, _, _ => exact do_none 12#8 (by decide) (by decide) reckons_12 rd rs1 rs2 imm pc x y w
 | 13, _, _ => exact do_none 13#8 (by decide) (by decide) reckons_13 rd rs1 rs2 imm pc x y w
 | 14, _, _ => exact do_none 14#8 (by decide) (by decide) reckons_14 rd rs1 rs2 imm pc x y w
 | 15, _, _ => exact do_none 15#8 (by decide) (by decide) reckons_15 rd rs1 rs2 imm pc x y w
 | 16, _, _ => exact do_none 16#8 (by decide) (by decide) reckons_16 rd rs1 rs2 imm pc x y w
 | 17, _, _ => exact do_none 17#8 (by decide) (by decide) reckons_17 rd rs1 rs2 imm pc x y w
 | 18, _, _ => exact do_none 18#8 (by decide) (by decide) reckons_18 rd rs1 rs2 imm pc x y w
 | 19, _, _ => exact do_none 19#8 (by decide) (by decide) reckons_19 rd rs1 rs2 imm pc x y w
 | 20, _, _ => exact do_none 20#8 (by decide) (by decide) reckons_20 rd rs1 rs2 imm pc x y w
 | 21, _, _ => exact do_none 21#8 (by decide) (by decide) reckons_21 rd rs1 rs2 imm pc x y w
 | 22, _, _ => exact do_22 rd rs1 rs2 imm pc x y w
 | 23, _, _ => exact do_23 rd rs1 rs2 imm pc x y w
 | 24, _, _ => exact do_24 rd rs1 rs2 imm pc x y w
 | 25, _, _ => exact do_25 rd rs1 rs2 imm pc x y w
 | 26, _, _ => exact do_26 rd rs1 rs2 imm pc x y w
 | 27, _, _ => exact do_27 rd rs1 rs2 imm pc x y w
 | 28, _, _ => exact do_28 rd rs1 rs2 imm pc x y w
 | 29, _, _ => exact do_29 rd rs1 rs2 imm pc x y w
 | 30, _, _ => exact do_30 rd rs1 rs2 imm pc x y w
 | 31, _, _ => exact do_y 31#8 (fun x y => x + y) (by decide) (by decide) reckons_31 rd rs1 rs2 imm pc x y w
 | 32, _, _ => exact do_y 32#8 (fun x y => x - y) (by decide) (by decide) reckons_32 rd rs1 rs2 imm pc x y w
 | 33, _, _ => exact do_y 33#8 sllW (by decide) (by decide) reckons_33 rd rs1 rs2 imm pc x y w
 | 34, _, _ => exact do_y 34#8 (fun x y => bitW (BitVec.slt x y)) (by decide) (by decide) reckons_34 rd rs1 rs2 imm pc x y w
 | 35, _, _ => exact do_y 35#8 (fun x y => bitW (BitVec.ult x y)) (by decide) (by decide) reckons_35 rd rs1 rs2 imm pc x y w
 | 36, _, _ => exact do_y 36#8 (fun x y => x ^^^ y) (by decide) (by decide) reckons_36 rd rs1 rs2 imm pc x y w
 | 37, _, _ => exact do_y 37#8 srlW (by decide) (by decide) reckons_37 rd rs1 rs2 imm pc x y w
 | 38, _, _ => exact do_y 38#8 sraW (by decide) (by decide) reckons_38 rd rs1 rs2 imm pc x y w
 | 39, _, _ => exact do_y 39#8 (fun x y => x ||| y) (by decide) (by decide) reckons_39 rd rs1 rs2 imm pc x y w
 | 40, _, _ => exact do_y 40#8 (fun x y => x &&& y) (by decide) (by decide) reckons_40 rd rs1 rs2 imm pc x y w
 | 41, _, _ => exact do_41 rd rs1 rs2 imm pc x y w
 | 42, _, _ => exact do_42 rd rs1 rs2 imm pc x y w
 | 43, _, _ => exact do_43 rd rs1 rs2 imm pc x y w
 | 44, _, _ => exact do_44 rd rs1 rs2 imm pc x y w
 | 45, _, _ => exact do_y 45#8 (signedF (fun x y => x + y)) (by decide) (by decide) reckons_45 rd rs1 rs2 imm pc x y w
 | 46, _, _ => exact do_y 46#8 (signedF (fun x y => x - y)) (by decide) (by decide) reckons_46 rd rs1 rs2 imm pc x y w
 | 47, _, _ => exact do_y 47#8 (movedF (signedF sllW)) (by decide) (by decide) reckons_47 rd rs1 rs2 imm pc x y w
 | 48, _, _ => exact do_y 48#8 (movedF (unsignedF srlW)) (by decide) (by decide) reckons_48 rd rs1 rs2 imm pc x y w
 | 49, _, _ => exact do_y 49#8 (movedF (signedF sraW)) (by decide) (by decide) reckons_49 rd rs1 rs2 imm pc x y w
 | 50, _, _ => exact do_y 50#8 (fun x y => x * y) (by decide) (by decide) reckons_50 rd rs1 rs2 imm pc x y w
 | 51, _, _ => exact do_y 51#8 mulhW (by decide) (by decide) reckons_51 rd rs1 rs2 imm pc x y w
 | 52, _, _ => exact do_y 52#8 mulhsuW (by decide) (by decide) reckons_52 rd rs1 rs2 imm pc x y w
 | 53, _, _ => exact do_y 53#8 hiW (by decide) (by decide) reckons_53 rd rs1 rs2 imm pc x y w
 | 54, _, _ => exact do_y 54#8 divW (by decide) (by decide) reckons_54 rd rs1 rs2 imm pc x y w
 | 55, _, _ => exact do_y 55#8 divuW (by decide) (by decide) reckons_55 rd rs1 rs2 imm pc x y w
 | 56, _, _ => exact do_y 56#8 remW (by decide) (by decide) reckons_56 rd rs1 rs2 imm pc x y w
 | 57, _, _ => exact do_y 57#8 remuW (by decide) (by decide) reckons_57 rd rs1 rs2 imm pc x y w
 | 58, _, _ => exact do_y 58#8 (signedF (fun x y => x * y)) (by decide) (by decide) reckons_58 rd rs1 rs2 imm pc x y w
 | 59, _, _ => exact do_y 59#8 (signedF divW) (by decide) (by decide) reckons_59 rd rs1 rs2 imm pc x y w
 | 60, _, _ => exact do_y 60#8 (unsignedF divuW) (by decide) (by decide) reckons_60 rd rs1 rs2 imm pc x y w
 | 61, _, _ => exact do_y 61#8 (signedF remW) (by decide) (by decide) reckons_61 rd rs1 rs2 imm pc x y w
 | 62, _, _ => exact do_y 62#8 (unsignedF remuW) (by decide) (by decide) reckons_62 rd rs1 rs2 imm pc x y w
 | 63, _, _ => exact do_none 63#8 (by decide) (by decide) reckons_63 rd rs1 rs2 imm pc x y w
 | 64, _, _ => exact do_none 64#8 (by decide) (by decide) reckons_64 rd rs1 rs2 imm pc x y w
 | 65, _, _ => exact do_none 65#8 (by decide) (by decide) reckons_65 rd rs1 rs2 imm pc x y w
 | n + 66, _, h => exact absurd h (by omega)
theorem loads_spec (op : BitVec 8) (w : World) (h1 : 1 ≤ op.toNat) (h2 : op.toNat < 66) : Cx 68 #[U8 op] w (.tuple #[IN (loadsM op.toNat).1, .bool (loadsM op.toNat).2]) := by
 obtain ⟨n, rfl, k1, k2⟩ := op_num op h1 h2
 rw [num_op n k2]
 match n, k1, k2 with
 | 1, _, _ => exact loads_z 1#8 (by decide) w
 | 2, _, _ => exact loads_z 2#8 (by decide) w
 | 3, _, _ => exact loads_z 3#8 (by decide) w
 | 4, _, _ => exact loads_z 4#8 (by decide) w
 | 5, _, _ => exact loads_z 5#8 (by decide) w
 | 6, _, _ => exact loads_z 6#8 (by decide) w
 | 7, _, _ => exact loads_z 7#8 (by decide) w
 | 8, _, _ => exact loads_z 8#8 (by decide) w
 | 9, _, _ => exact loads_z 9#8 (by decide) w
 | 10, _, _ => exact loads_z 10#8 (by decide) w
 | 11, _, _ => exact loads_11 w
 | 12, _, _ => exact loads_12 w
 | 13, _, _ => exact loads_13 w
 | 14, _, _ => exact loads_14 w
 | 15, _, _ => exact loads_15 w
 | 16, _, _ => exact loads_16 w
 | 17, _, _ => exact loads_17 w
 | 18, _, _ => exact loads_z 18#8 (by decide) w
 | 19, _, _ => exact loads_z 19#8 (by decide) w
 | 20, _, _ => exact loads_z 20#8 (by decide) w
 | 21, _, _ => exact loads_z 21#8 (by decide) w
 | 22, _, _ => exact loads_z 22#8 (by decide) w
 | 23, _, _ => exact loads_z 23#8 (by decide) w
 | 24, _, _ => exact loads_z 24#8 (by decide) w
 | 25, _, _ => exact loads_z 25#8 (by decide) w
 | 26, _, _ => exact loads_z 26#8 (by decide) w
 | 27, _, _ => exact loads_z 27#8 (by decide) w
 | 28, _, _ => exact loads_z 28#8 (by decide) w
 | 29, _, _ => exact loads_z 29#8 (by decide) w
 | 30, _, _ => exact loads_z 30#8 (by decide) w
 | 31, _, _ => exact loads_z 31#8 (by decide) w
 | 32, _, _ => exact loads_z 32#8 (by decide) w
 | 33, _, _ => exact loads_z 33#8 (by decide) w
 | 34, _, _ => exact loads_z 34#8 (by decide) w
 | 35, _, _ => exact loads_z 35#8 (by decide) w
 | 36, _, _ => exact loads_z 36#8 (by decide) w
 | 37, _, _ => exact loads_z 37#8 (by decide) w
 | 38, _, _ => exact loads_z 38#8 (by decide) w
 | 39, _, _ => exact loads_z 39#8 (by decide) w
 | 40, _, _ => exact loads_z 40#8 (by decide) w
 | 41, _, _ => exact loads_z 41#8 (by decide) w
 | 42, _, _ => exact loads_z 42#8 (by decide) w
 | 43, _, _ => exact loads_z 43#8 (by decide) w
 | 44, _, _ => exact loads_z 44#8 (by decide) w
 | 45, _, _ => exact loads_z 45#8 (by decide) w
 | 46, _, _ => exact loads_z 46#8 (by decide) w
 | 47, _, _ => exact loads_z 47#8 (by decide) w
 | 48, _, _ => exact loads_z 48#8 (by decide) w
 | 49, _, _ => exact loads_z 49#8 (by decide) w
 | 50, _, _ => exact loads_z 50#8 (by decide) w
 | 51, _, _ => exact loads_z 51#8 (by decide) w
 | 52, _, _ => exact loads_z 52#8 (by decide) w
 | 53, _, _ => exact loads_z 53#8 (by decide) w
 | 54, _, _ => exact loads_z 54#8 (by decide) w
 | 55, _, _ => exact loads_z 55#8 (by decide) w
 | 56, _, _ => exact loads_z 56#8 (by decide) w
 | 57, _, _ => exact loads_z 57#8 (by decide) w
 | 58, _, _ => exact loads_z 58#8 (by decide) w
 | 59, _, _ => exact loads_z 59#8 (by decide) w
 | 60, _, _ => exact loads_z 60#8 (by decide) w
 | 61, _, _ => exact loads_z 61#8 (by decide) w
 | 62, _, _ => exact loads_z 62#8 (by decide) w
 | 63, _, _ => exact loads_z 63#8 (by decide) w
 | 64, _, _ => exact loads_z 64#8 (by decide) w
 | 65, _, _ => exact loads_z 65#8 (by decide) w
 | n + 66, _, h => exact absurd h (by omega)
end Go.Proofs.N
end
section
set_option linter.unusedSimpArgs false
set_option linter.unusedVariables false
namespace Go.Proofs.S
open Go Go.Ux Go.Ux.Mach Go.Proofs
open Tryz
open Go.Proofs.M (instV Glob of_ok)
def writesF (a : RvInst) : Bool := !((((encodeR a).2 : Nat) : Int) != (0 : Int)) && ((formOf (rvAt a.op.toNat).k).rd && !(a.rd == 0#8))
theorem writes_spec (a : RvInst) (w : World) (hG : Glob w) (ho1 : 1 ≤ a.op.toNat) (ho2 : a.op.toNat < 66)  : Cx 71 #[.agg #[U8 a.op, U8 a.rd, U8 a.rs1, U8 a.rs2, I64 a.imm]] w ((if writesF a then .tuple #[U8 a.rd, .bool true] else .tuple #[Z1, .bool false])) := by
 refine Co func71 G G ?_
 refine Sr (WL.box (v := .agg #[U8 a.op, U8 a.rd, U8 a.rs1, U8 a.rs2, I64 a.imm]) G G ?_)
 intro b1 w1 n1
 have E1 : Ext w w1 := n1.ext
 refine Ae (U8 0#8) (Ae (.bool false) (Ni (Sr (Se [U8 a.op, U8 a.rd, U8 a.rs1, U8 a.rs2, I64 a.imm] n1.blk (Ca (encode_spec a _ (hG.ext E1)) ?_)))))
 rintro _ wen ⟨rfl, een⟩
 have E2 := Mt E1 een
 refine Me (.tuple #[U32 (encodeR a).1, IN (encodeR a).2]) (Et G G (Et G G (Ae (U32 ((encodeR a).1)) (Ae (IN ((encodeR a).2)) (Ni (Sr (Fa G fo48_0 ?_)))))))
 have B3 := n1.blk.ext een
 refine Le (B3.cell (j := 0) G) (Ca (of_ok a.op _ (hG.ext E2) ho1 ho2) ?_)
 rintro _ wof ⟨iv, rfl, hIV, eof⟩
 have E4 := Mt E2 eof
 refine Me (.tuple #[rowVal iv (rvAt a.op.toNat), .bool true]) (Et G G (Et G G (WL.allocStore (v := .agg #[.bool ((formOf (rvAt a.op.toNat).k).rd), .bool ((formOf (rvAt a.op.toNat).k).rs1), .bool ((formOf (rvAt a.op.toNat).k).rs2), iv, IN ((formOf (rvAt a.op.toNat).k).noughts), .bool ((formOf (rvAt a.op.toNat).k).signed), U32 ((formOf (rvAt a.op.toNat).k).mask), St (rvAt a.op.toNat).name, U32 ((rvAt a.op.toNat).mtch)]) zt118 G sz118 G G (ones_row hIV.one _ _ _ _ _ _ _ _) G ?_)))
 intro b6 w6 n6
 have E5 := Mt E4 n6.ext
 refine Ae (.bool true) (Ni (Sq (Sr (Me (IN ((encodeR a).2)) (Bn G G BinR.neq (Me (.bool (((((encodeR a).2 : Nat) : Int) != (0 : Int)))) ?_))))))
 rcases Bool.eq_false_or_eq_true (((((encodeR a).2 : Nat) : Int) != (0 : Int))) with hg21 | hg21
 ·refine Gz hg21 (Gz hg21 (Gz hg21 (Gz hg21 (Qt hg21 G (Me (.bool true) (Gx (Gx (Gx (Pt G (Ni (Ct G (Sr (Ae (U8 0#8) (Ae (.bool false) (Ni (WC.ret ?_))))))))))))))))
  have hfin : (.tuple #[U8 0#8, .bool false] : Value) = (if writesF a then .tuple #[U8 a.rd, .bool true] else .tuple #[Z1, .bool false]) := by simp only [writesF, *, Bool.true_or, Bool.or_true, Bool.false_or, Bool.or_false, Bool.true_and, Bool.and_true, Bool.false_and, Bool.and_false, Bool.not_true, Bool.not_false, if_true, if_false, Bool.false_eq_true]; first | done | rfl
  exact ⟨_, Rp G G G, hfin, E5⟩
 ·refine Gy hg21 (Fa G fo118_0 (Gy hg21 (Fa G fo116_0 (Gy hg21 (Le (n6.blk.cell (j := 0) G) (Gy hg21 (WL.un G G UnR.not (Qf hg21 G (Me (.bool (!((formOf (rvAt a.op.toNat).k).rd))) ?_)))))))))
  rcases Bool.eq_false_or_eq_true (!((formOf (rvAt a.op.toNat).k).rd)) with hg27 | hg27
  ·have q27 : (formOf (rvAt a.op.toNat).k).rd = false := by simpa using hg27
   refine Gz hg27 (Gz hg27 (Gz hg27 (Qt hg27 G (Ni (Ct G (Sr (Ae (U8 0#8) (Ae (.bool false) (Ni (WC.ret ?_))))))))))
   have hfin : (.tuple #[U8 0#8, .bool false] : Value) = (if writesF a then .tuple #[U8 a.rd, .bool true] else .tuple #[Z1, .bool false]) := by simp only [writesF, *, Bool.true_or, Bool.or_true, Bool.false_or, Bool.or_false, Bool.true_and, Bool.and_true, Bool.false_and, Bool.and_false, Bool.not_true, Bool.not_false, if_true, if_false, Bool.false_eq_true]; first | done | rfl
   exact ⟨_, Rp G G G, hfin, E5⟩
  ·have q27 : (formOf (rvAt a.op.toNat).k).rd = true := by simpa using hg27
   refine Gy hg27 (Fa G fo48_1 (Gy hg27 ?_))
   have B6 := (B3.ext eof).ext n6.ext
   refine Le (B6.cell (j := 1) G) (Gy hg27 (Bn (vy := U8 0#8) G G BinR.eqlU8 (Qf hg27 G (Ni ?_))))
   refine WC.cond G (fun hc31 => ?_) (fun hc31 => ?_)
   ·refine Sr (Ae (U8 0#8) (Ae (.bool false) (Ni (WC.ret ?_))))
    have hfin : (.tuple #[U8 0#8, .bool false] : Value) = (if writesF a then .tuple #[U8 a.rd, .bool true] else .tuple #[Z1, .bool false]) := by simp only [writesF, *, Bool.true_or, Bool.or_true, Bool.false_or, Bool.or_false, Bool.true_and, Bool.and_true, Bool.false_and, Bool.and_false, Bool.not_true, Bool.not_false, if_true, if_false, Bool.false_eq_true]; first | done | rfl
    exact ⟨_, Rp G G G, hfin, E5⟩
   ·refine WC.skip (Sr (Fa G fo48_1 (Le (B6.cell (j := 1) G) (Ae (U8 a.rd) (Ae (.bool true) (Ni (WC.ret ?_)))))))
    have hfin : (.tuple #[U8 a.rd, .bool true] : Value) = (if writesF a then .tuple #[U8 a.rd, .bool true] else .tuple #[Z1, .bool false]) := by simp only [writesF, *, Bool.true_or, Bool.or_true, Bool.false_or, Bool.or_false, Bool.true_and, Bool.and_true, Bool.false_and, Bool.and_false, Bool.not_true, Bool.not_false, if_true, if_false, Bool.false_eq_true]; first | done | rfl
    exact ⟨_, Rp G G G, hfin, E5⟩
end Go.Proofs.S
end
section
set_option linter.unusedSimpArgs false
set_option linter.unusedVariables false
namespace Go.Proofs.S
open Go Go.Ux Go.Ux.Mach Go.Proofs
open Tryz
open Go.Proofs.M (instV Glob)
def codeFrom : Nat → Code → Code
 | k + 1, .seq _ b => codeFrom k b
 | 0, c => c
 | _, c => c
noncomputable def tail36 : Code := match Tryz.f36.body with
 | some c => codeFrom 5 c
 | none => .skip
theorem tail_trap (T : Nat → Nat) (b b3 : Nat) (M : MS) (a : RvInst) (v nx : BitVec 64) (errv : Value) (o : Option Bool) (S : Value → World → Prop) (f : Fr) (w : World) (hM : MR T w b M) (f0 : f 0 = ptr b 0) (f3 : f 3 = ptr b3 0) (f7 : f 7 = U64 v) (f8 : f 8 = U64 nx) (f9 : f 9 = errv) (h3 : Blk w b3 #[U8 a.op, U8 a.rd, U8 a.rs1, U8 a.rs2, I64 a.imm] 48) (t3 : T b3 = 0) (hE : EndV w errv o) (hG : Glob w) (hX : HX w) (ho : (o == some true) = true) (hS : ∀ w', Ext w w' → S errv w') : WC prog tail36 112 f w (Ux.Fin prog Tryz.f36 112 S) := by
 obtain ⟨bq, sd, ss, cv, iv, ev, en, hb, ht⟩ := hM
 have nb3 : b3 ≠ b := by intro e; rw [e, ht.tb] at t3; cases t3
 refine Sq (Sr (Mv errv f9 (Ca (trapped_spec errv o _ hX hE) ?_)))
 rintro _ wt ⟨rfl, et⟩
 rw [ho]
 have E1 : Ext w wt := et
 refine Ni (Ct G (Sr (Mv errv f9 (Ae errv (Ni (WC.ret ?_))))))
 exact ⟨_, Ro G G, hS _ E1⟩
def putM (M : MS) (a : RvInst) (v nx : BitVec 64) : MS := { M with x := (if writesF a && a.op != 63#8 then updR M.x (a.rd).toNat v else M.x), pc := nx }
theorem tail_w (T : Nat → Nat) (b b3 : Nat) (M : MS) (a : RvInst) (v nx : BitVec 64) (errv : Value) (o : Option Bool) (S : Value → World → Prop) (f : Fr) (w : World) (hM : MR T w b M) (f0 : f 0 = ptr b 0) (f3 : f 3 = ptr b3 0) (f7 : f 7 = U64 v) (f8 : f 8 = U64 nx) (f9 : f 9 = errv) (h3 : Blk w b3 #[U8 a.op, U8 a.rd, U8 a.rs1, U8 a.rs2, I64 a.imm] 48) (t3 : T b3 = 0) (hE : EndV w errv o) (hG : Glob w) (hX : HX w) (ho : (o == some true) = false) (hEt : ∀ e, errv = .iface 144 (ptr e 0) → T e = 0) (ho1 : 1 ≤ a.op.toNat) (ho2 : a.op.toNat < 66) (hrd : a.rd.toNat < 32) (hw : writesF a = true) (h63 : (a.op != 63#8) = true) (hS : ∀ w', MR T w' b (putM M a v nx) → Mod (Fp T) w w' → EndV w' errv o → S errv w') : WC prog tail36 112 f w (Ux.Fin prog Tryz.f36 112 S) := by
 obtain ⟨bq, sd, ss, cv, iv, ev, en, hb, ht⟩ := hM
 have nb3 : b3 ≠ b := by intro e; rw [e, ht.tb] at t3; cases t3
 refine Sq (Sr (Mv errv f9 (Ca (trapped_spec errv o _ hX hE) ?_)))
 rintro _ wt ⟨rfl, et⟩
 rw [ho]
 have E1 : Mod (fun k => T k = 1) w wt := (Mod.ext et)
 refine Ni (Cf G (WC.skip (Sq (Sr ?_))))
 have B2 := h3.ext et
 refine Ls [U8 a.op, U8 a.rd, U8 a.rs1, U8 a.rs2, I64 a.imm] f3 ag48 sz48 B2 (Ca (writes_spec a _ (hG.ext et) ho1 ho2) ?_)
 rintro v92 ww ⟨hv92, eww⟩
 rw [hw] at hv92
 obtain rfl : v92 = .tuple #[U8 a.rd, .bool true] := hv92
 have E3 : Mod (fun k => T k = 1) w ww := Mt E1 (Mod.ext eww)
 refine Me (.tuple #[U8 a.rd, .bool true]) (Et G G (Et G G (Ae (U8 a.rd) (Ae (.bool true) (Ni (Sr (Me (.bool true) (Me (.bool true) (Gr (Fa f3 fo48_0 (Gr ?_)))))))))))
 have B4 := B2.ext eww
 refine Le (B4.cell (j := 0) G) (Gr (Bt (vy := U8 63#8) G G BinR.neqU8 h63 (Pt G (Ni (Ct G (Rg (Mv (ptr b 0) f0 (Me (U8 a.rd) (Mv (U64 v) f7 (WL.nilCheck G G (Fa G fo85_3 (WL.indexArr1 (i := a.rd.toNat) ar68 sz39 G G hrd G ?_))))))))))))
 have B5 := (hb.ext et).ext eww
 refine WL.storeB (o := 3 + a.rd.toNat) (v := U64 v) G G G sz39 B5 (show 3 + a.rd.toNat < 39 by omega) ?_
 intro wz mz bz zz
 rw [machCells_set _ _ _ _ _ _ _ _ hrd v] at bz
 have E6 : Mod (fun k => T k = 1) w wz := Mod.trans E3 (mz.imp (fun i _ e => by subst e; exact ht.tb))
 refine Ni (Sr (Mv (ptr b 0) f0 (Mv (U64 nx) f8 (WL.nilCheck G G (Fa G fo85_4 (WL.storeB (v := U64 nx) G G G sz39 bz (Nat.le_of_ble_eq_true G) ?_))))))
 intro ws7 ms7 bs7 zs7
 have E7 : Mod (fun k => T k = 1) w ws7 := Mod.trans E6 (ms7.imp (fun i _ e => by subst e; exact ht.tb))
 refine Ni (Sr (Mv errv f9 (Ae errv (Ni (WC.ret ?_)))))
 have hp : putM M a v nx = { M with x := (updR M.x a.rd.toNat v), pc := nx } := by simp only [putM, hw, h63, Bool.true_and, Bool.and_true, Bool.false_and, Bool.and_false, if_true, if_false, Bool.false_eq_true]
 have hfin : MR T ws7 b (putM M a v nx) := by rw [hp]; exact ⟨bq, sd, ss, cv, iv, ev, en, bs7, (ht.other E7).regs (updR M.x a.rd.toNat v) nx M.steps⟩
 exact ⟨_, Ro G G, hS _ hfin (Mod.fp E7) (hE.mod E7 (fun e h k => by rw [hEt e h] at k; cases k))⟩
theorem tail_f (T : Nat → Nat) (b b3 : Nat) (M : MS) (a : RvInst) (v nx : BitVec 64) (errv : Value) (o : Option Bool) (S : Value → World → Prop) (f : Fr) (w : World) (hM : MR T w b M) (f0 : f 0 = ptr b 0) (f3 : f 3 = ptr b3 0) (f7 : f 7 = U64 v) (f8 : f 8 = U64 nx) (f9 : f 9 = errv) (h3 : Blk w b3 #[U8 a.op, U8 a.rd, U8 a.rs1, U8 a.rs2, I64 a.imm] 48) (t3 : T b3 = 0) (hE : EndV w errv o) (hG : Glob w) (hX : HX w) (ho : (o == some true) = false) (hEt : ∀ e, errv = .iface 144 (ptr e 0) → T e = 0) (ho1 : 1 ≤ a.op.toNat) (ho2 : a.op.toNat < 66) (hrd : a.rd.toNat < 32) (hw : writesF a = true) (h63 : (a.op != 63#8) = false) (hS : ∀ w', MR T w' b (putM M a v nx) → Mod (Fp T) w w' → EndV w' errv o → S errv w') : WC prog tail36 112 f w (Ux.Fin prog Tryz.f36 112 S) := by
 obtain ⟨bq, sd, ss, cv, iv, ev, en, hb, ht⟩ := hM
 have nb3 : b3 ≠ b := by intro e; rw [e, ht.tb] at t3; cases t3
 refine Sq (Sr (Mv errv f9 (Ca (trapped_spec errv o _ hX hE) ?_)))
 rintro _ wt ⟨rfl, et⟩
 rw [ho]
 have E1 : Mod (fun k => T k = 1) w wt := (Mod.ext et)
 refine Ni (Cf G (WC.skip (Sq (Sr ?_))))
 have B2 := h3.ext et
 refine Ls [U8 a.op, U8 a.rd, U8 a.rs1, U8 a.rs2, I64 a.imm] f3 ag48 sz48 B2 (Ca (writes_spec a _ (hG.ext et) ho1 ho2) ?_)
 rintro v92 ww ⟨hv92, eww⟩
 rw [hw] at hv92
 obtain rfl : v92 = .tuple #[U8 a.rd, .bool true] := hv92
 have E3 : Mod (fun k => T k = 1) w ww := Mt E1 (Mod.ext eww)
 refine Me (.tuple #[U8 a.rd, .bool true]) (Et G G (Et G G (Ae (U8 a.rd) (Ae (.bool true) (Ni (Sr (Me (.bool true) (Me (.bool true) (Gr (Fa f3 fo48_0 (Gr ?_)))))))))))
 have B4 := B2.ext eww
 refine Le (B4.cell (j := 0) G) (Gr (Bf (vy := U8 63#8) G G BinR.neqU8 h63 (Pt G (Ni (Cf G (WC.skip (Sr (Mv (ptr b 0) f0 (Mv (U64 nx) f8 (WL.nilCheck G G (Fa G fo85_4 ?_)))))))))))
 have B5 := (hb.ext et).ext eww
 refine WL.storeB (v := U64 nx) G G G sz39 B5 (Nat.le_of_ble_eq_true G) ?_
 intro ws6 ms6 bs6 zs6
 have E6 : Mod (fun k => T k = 1) w ws6 := Mod.trans E3 (ms6.imp (fun i _ e => by subst e; exact ht.tb))
 refine Ni (Sr (Mv errv f9 (Ae errv (Ni (WC.ret ?_)))))
 have hp : putM M a v nx = { M with x := M.x, pc := nx } := by simp only [putM, hw, h63, Bool.true_and, Bool.and_true, Bool.false_and, Bool.and_false, if_true, if_false, Bool.false_eq_true]
 have hfin : MR T ws6 b (putM M a v nx) := by rw [hp]; exact ⟨bq, sd, ss, cv, iv, ev, en, bs6, (ht.other E6).regs M.x nx M.steps⟩
 exact ⟨_, Ro G G, hS _ hfin (Mod.fp E6) (hE.mod E6 (fun e h k => by rw [hEt e h] at k; cases k))⟩
theorem tail_n (T : Nat → Nat) (b b3 : Nat) (M : MS) (a : RvInst) (v nx : BitVec 64) (errv : Value) (o : Option Bool) (S : Value → World → Prop) (f : Fr) (w : World) (hM : MR T w b M) (f0 : f 0 = ptr b 0) (f3 : f 3 = ptr b3 0) (f7 : f 7 = U64 v) (f8 : f 8 = U64 nx) (f9 : f 9 = errv) (h3 : Blk w b3 #[U8 a.op, U8 a.rd, U8 a.rs1, U8 a.rs2, I64 a.imm] 48) (t3 : T b3 = 0) (hE : EndV w errv o) (hG : Glob w) (hX : HX w) (ho : (o == some true) = false) (hEt : ∀ e, errv = .iface 144 (ptr e 0) → T e = 0) (ho1 : 1 ≤ a.op.toNat) (ho2 : a.op.toNat < 66) (hrd : a.rd.toNat < 32) (hw : writesF a = false) (hS : ∀ w', MR T w' b (putM M a v nx) → Mod (Fp T) w w' → EndV w' errv o → S errv w') : WC prog tail36 112 f w (Ux.Fin prog Tryz.f36 112 S) := by
 obtain ⟨bq, sd, ss, cv, iv, ev, en, hb, ht⟩ := hM
 have nb3 : b3 ≠ b := by intro e; rw [e, ht.tb] at t3; cases t3
 refine Sq (Sr (Mv errv f9 (Ca (trapped_spec errv o _ hX hE) ?_)))
 rintro _ wt ⟨rfl, et⟩
 rw [ho]
 have E1 : Mod (fun k => T k = 1) w wt := (Mod.ext et)
 refine Ni (Cf G (WC.skip (Sq (Sr ?_))))
 have B2 := h3.ext et
 refine Ls [U8 a.op, U8 a.rd, U8 a.rs1, U8 a.rs2, I64 a.imm] f3 ag48 sz48 B2 (Ca (writes_spec a _ (hG.ext et) ho1 ho2) ?_)
 rintro v92 ww ⟨hv92, eww⟩
 rw [hw] at hv92
 obtain rfl : v92 = .tuple #[Z1, .bool false] := hv92
 have E3 : Mod (fun k => T k = 1) w ww := Mt E1 (Mod.ext eww)
 refine Me (.tuple #[Z1, .bool false]) (Et G G (Et G G (Ae Z1 (Ae (.bool false) (Ni (Sr (Me (.bool false) (Me (.bool false) (Gx (Gx (Gx (Pf G (Ni (Cf G (WC.skip (Sr (Mv (ptr b 0) f0 (Mv (U64 nx) f8 (WL.nilCheck G G (Fa G fo85_4 ?_))))))))))))))))))))
 have B4 := (hb.ext et).ext eww
 refine WL.storeB (v := U64 nx) G G G sz39 B4 (Nat.le_of_ble_eq_true G) ?_
 intro ws5 ms5 bs5 zs5
 have E5 : Mod (fun k => T k = 1) w ws5 := Mod.trans E3 (ms5.imp (fun i _ e => by subst e; exact ht.tb))
 refine Ni (Sr (Mv errv f9 (Ae errv (Ni (WC.ret ?_)))))
 have hp : putM M a v nx = { M with x := M.x, pc := nx } := by simp only [putM, hw, Bool.true_and, Bool.and_true, Bool.false_and, Bool.and_false, if_true, if_false, Bool.false_eq_true]
 have hfin : MR T ws5 b (putM M a v nx) := by rw [hp]; exact ⟨bq, sd, ss, cv, iv, ev, en, bs5, (ht.other E5).regs M.x nx M.steps⟩
 exact ⟨_, Ro G G, hS _ hfin (Mod.fp E5) (hE.mod E5 (fun e h k => by rw [hEt e h] at k; cases k))⟩
theorem tail_go (T : Nat → Nat) (b b3 : Nat) (M : MS) (a : RvInst) (v nx : BitVec 64) (errv : Value) (o : Option Bool) (S : Value → World → Prop) (f : Fr) (w : World) (hM : MR T w b M) (f0 : f 0 = ptr b 0) (f3 : f 3 = ptr b3 0) (f7 : f 7 = U64 v) (f8 : f 8 = U64 nx) (f9 : f 9 = errv) (h3 : Blk w b3 #[U8 a.op, U8 a.rd, U8 a.rs1, U8 a.rs2, I64 a.imm] 48) (t3 : T b3 = 0) (hE : EndV w errv o) (hG : Glob w) (hX : HX w) (ho : (o == some true) = false) (hEt : ∀ e, errv = .iface 144 (ptr e 0) → T e = 0) (ho1 : 1 ≤ a.op.toNat) (ho2 : a.op.toNat < 66) (hrd : a.rd.toNat < 32) (hS : ∀ w', MR T w' b (putM M a v nx) → Mod (Fp T) w w' → EndV w' errv o → S errv w') : WC prog tail36 112 f w (Ux.Fin prog Tryz.f36 112 S) := by
 rcases hw : writesF a with _ | _
 ·exact tail_n T b b3 M a v nx errv o S f w hM f0 f3 f7 f8 f9 h3 t3 hE hG hX ho hEt ho1 ho2 hrd hw hS
 ·rcases h63 : (a.op != 63#8) with _ | _
  ·exact tail_f T b b3 M a v nx errv o S f w hM f0 f3 f7 f8 f9 h3 t3 hE hG hX ho hEt ho1 ho2 hrd hw h63 hS
  ·exact tail_w T b b3 M a v nx errv o S f w hM f0 f3 f7 f8 f9 h3 t3 hE hG hX ho hEt ho1 ho2 hrd hw h63 hS
end Go.Proofs.S
end
