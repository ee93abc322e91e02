/- Steps of the proof, packed by program: UxCore UxOps UxArith UxMem UxRow UxSl UxDraw UxMore UxApp UxStr UxMap UxSl2 UxOne ImgPure UxOpen ImgEng ImgNum ImgRight ImgBig ImgBytes ImgParse ImgPre ImgInj. -/
import Derived.WalkKit
import Derived.Orders
import Derived.IntWalk
import Derived.ProofKit
import Derived.OpenShut
import Derived.OrdersHeld
import Derived.Deep.AppendSrc
import Derived.Deep.Upon
import Derived.Deep.MidRow
import Derived.Laws.IdiomStrings
import Derived.Lib.BufferRead
import Derived.Lib.SlBytesConst
import Derived.WideMake
import Derived.Laws.StructEq
import Derived.MapKept
import Derived.Lib.SmallJoins
import Derived.Deep.SlicePairs
set_option linter.unusedVariables false
set_option linter.unusedSimpArgs false
section
namespace Go.Ux
open Go
abbrev Fr := Nat → Value
def upd (f : Fr) (d : Nat) (v : Value) : Fr := fun t => if t = d then v else f t
theorem upd_same (f : Fr) (d : Nat) (v : Value) : upd f d v d = v := by simp [upd]
theorem upd_other (f : Fr) (d t : Nat) (v : Value) (h : t ≠ d) : upd f d v t = f t := by simp [upd, h]
def updO (f : Fr) : Option Nat → Value → Fr
  | some d, v => upd f d v
  | none, _ => f
def frOf (a : Act) : Fr := fun t => a.tmps.getD t undef
def ev (f : Fr) : Operand → Value
  | .tmp t => f t
  | .const v => v
  | .global g => .pointer (some ⟨g, 0, none⟩)
  | .func g => .func (.func g) #[] #[]
theorem eval_eq (a : Act) : a.eval = ev (frOf a) := by
  funext x; cases x <;> rfl
theorem frOf_put (a : Act) (d : Nat) (v : Value) (h : d < a.tmps.size) : frOf (a.put (some d) v) = upd (frOf a) d v := by
  funext t
  simp only [frOf, Act.put, upd, Array.getD_eq_getD_getElem?, Array.getElem?_setIfInBounds]
  by_cases e : d = t
  · subst e; simp [h]
  · rw [if_neg e, if_neg (fun h => e h.symm)]
theorem frOf_putO (a : Act) (d : Option Nat) (v : Value) (h : ∀ k, d = some k → k < a.tmps.size) : frOf (a.put d v) = updO (frOf a) d v := by
  cases d with
  | none => rfl
  | some k => exact frOf_put a k v (h k rfl)
theorem size_put (a : Act) (d : Option Nat) (v : Value) : (a.put d v).tmps.size = a.tmps.size := by
  cases d <;> simp [Act.put]
theorem defers_put (a : Act) (d : Option Nat) (v : Value) : (a.put d v).defers = a.defers := by
  cases d <;> rfl
def Post (n : Nat) (Q : Exit → Fr → World → Prop) : Exit → Act → World → Prop :=
  fun e a w => a.tmps.size = n ∧ a.defers = [] ∧ Q e (frOf a) w
def WC (P : Program) (c : Code) (n : Nat) (f : Fr) (w : World) (Q : Exit → Fr → World → Prop) : Prop :=
  ∀ a : Act, a.tmps.size = n → a.defers = [] → frOf a = f → c.wp P (Post n Q) a w
def WL (P : Program) (ops : Array Oper) (l : List Oper) (n : Nat) (f : Fr) (w : World) (Q : Exit → Fr → World → Prop) : Prop :=
  ∀ a : Act, a.tmps.size = n → a.defers = [] → frOf a = f → wpList P ops (Post n Q) l a w
section code
variable {P : Program} {n : Nat} {f : Fr} {w : World} {Q : Exit → Fr → World → Prop}
theorem WC.mono {c : Code} {Q' : Exit → Fr → World → Prop} (h : WC P c n f w Q) (hq : ∀ e f w, Q e f w → Q' e f w) : WC P c n f w Q' :=
  fun a h1 h2 h3 => Code.wp_mono (fun _ _ _ h => ⟨h.1, h.2.1, hq _ _ _ h.2.2⟩) (h a h1 h2 h3)
theorem WC.cut {c : Code} (R : Fr → World → Prop) (h : WC P c n f w (fun e f' w' => e = .normal ∧ R f' w')) (k : ∀ f' w', R f' w' → Q .normal f' w') : WC P c n f w Q :=
  h.mono fun _ f' w' ⟨he, hr⟩ => by subst he; exact k f' w' hr
theorem WC.skip (h : Q .normal f w) : WC P .skip n f w Q := fun _ h1 h2 h3 => wp_skip ⟨h1, h2, by rw [h3]; exact h⟩
theorem WC.ret (h : Q .ret f w) : WC P .ret n f w Q := fun _ h1 h2 h3 => wp_ret ⟨h1, h2, by rw [h3]; exact h⟩
theorem WC.exit {id : Nat} (h : Q (.exit id) f w) : WC P (.exit id) n f w Q := fun _ h1 h2 h3 => wp_exit ⟨h1, h2, by rw [h3]; exact h⟩
def Then (n : Nat) (P : Program) (y : Code) (Q : Exit → Fr → World → Prop) : Exit → Fr → World → Prop
  | .normal, f, w => WC P y n f w Q
  | e, f, w => Q e f w
theorem WC.seq {x y : Code} (h : WC P x n f w (Then n P y Q)) : WC P (.seq x y) n f w Q := by
  intro a h1 h2 h3
  refine wp_seq (Code.wp_mono ?_ (h a h1 h2 h3))
  rintro e a' w' ⟨k1, k2, k3⟩
  cases e with
  | normal => exact k3 a' k1 k2 rfl
  | exit id => exact ⟨k1, k2, k3⟩
  | goto l => exact ⟨k1, k2, k3⟩
  | ret => exact ⟨k1, k2, k3⟩
  | panic c => exact ⟨k1, k2, k3⟩
  | outgrown => exact ⟨k1, k2, k3⟩
theorem WC.cond {c : Operand} {x y : Code} {t : Bool} (hc : ev f c = .bool t) (ht : t = true → WC P x n f w Q) (hf : t = false → WC P y n f w Q) : WC P (.cond c x y) n f w Q := by
  intro a h1 h2 h3
  refine wp_cond_split (t := t) (by rw [eval_eq, h3]; exact hc) (fun e => ht e a h1 h2 h3) (fun e => hf e a h1 h2 h3)
theorem WC.condT {c : Operand} {x y : Code} (hc : ev f c = .bool true) (h : WC P x n f w Q) : WC P (.cond c x y) n f w Q :=
  WC.cond hc (fun _ => h) (fun e => by cases e)
theorem WC.condF {c : Operand} {x y : Code} (hc : ev f c = .bool false) (h : WC P y n f w Q) : WC P (.cond c x y) n f w Q :=
  WC.cond hc (fun e => by cases e) (fun _ => h)
def InB (id : Nat) (Q : Exit → Fr → World → Prop) : Exit → Fr → World → Prop
  | .exit id', f, w => if id' = id then Q .normal f w else Q (.exit id') f w
  | e, f, w => Q e f w
theorem WC.block {id : Nat} {c : Code} (h : WC P c n f w (InB id Q)) : WC P (.block id c) n f w Q := by
  intro a h1 h2 h3
  refine wp_block (Code.wp_mono ?_ (h a h1 h2 h3))
  rintro e a' w' ⟨k1, k2, k3⟩
  cases e with
  | exit id' =>
    simp only [InB] at k3
    simp only [Exit.inBlock]
    split
    · rename_i he; rw [if_pos he] at k3; exact ⟨k1, k2, k3⟩
    · rename_i he; rw [if_neg he] at k3; exact ⟨k1, k2, k3⟩
  | normal => exact ⟨k1, k2, k3⟩
  | goto l => exact ⟨k1, k2, k3⟩
  | ret => exact ⟨k1, k2, k3⟩
  | panic c => exact ⟨k1, k2, k3⟩
  | outgrown => exact ⟨k1, k2, k3⟩
theorem min_of (p : Nat → Prop) (h : ∃ k, p k) : ∃ k, p k ∧ ∀ j, p j → k ≤ j := by
  obtain ⟨k, hk⟩ := h
  induction k using Nat.strongRecOn with
  | _ k ih =>
    by_cases hex : ∃ j, j < k ∧ p j
    · obtain ⟨j, hj, hpj⟩ := hex
      exact ih j hj hpj
    · exact ⟨k, hk, fun j hj => Nat.le_of_not_lt fun hlt => hex ⟨j, hlt, hj⟩⟩
def Round (I : Nat → Fr → World → Prop) (Q : Exit → Fr → World → Prop) (k : Nat) : Exit → Fr → World → Prop
  | .normal, f, w => ∃ j, j < k ∧ I j f w
  | e, f, w => Q e f w
theorem WC.loop {c : Code} (I : Nat → Fr → World → Prop) (k : Nat) (h0 : I k f w)
    (round : ∀ k f w, I k f w → WC P c n f w (Round I Q k)) : WC P (.loop c) n f w Q := by
  intro a h1 h2 h3
  let J : Act → World → Prop := fun a w => a.tmps.size = n ∧ a.defers = [] ∧ ∃ k, I k (frOf a) w
  have hμ : ∀ a w, ∃ m, J a w → I m (frOf a) w ∧ ∀ j, I j (frOf a) w → m ≤ j := fun a w => by
    by_cases h : J a w
    · obtain ⟨m, hm, hl⟩ := min_of (fun k => I k (frOf a) w) h.2.2
      exact ⟨m, fun _ => ⟨hm, hl⟩⟩
    · exact ⟨0, fun h' => (h h').elim⟩
  let μ : Act → World → Nat := fun a w => Classical.choose (hμ a w)
  have hspec : ∀ a w, J a w → I (μ a w) (frOf a) w ∧ ∀ j, I j (frOf a) w → μ a w ≤ j := fun a w => Classical.choose_spec (hμ a w)
  refine wp_loop J μ ⟨h1, h2, k, by rw [h3]; exact h0⟩ ?_
  intro a w hJ
  obtain ⟨hI, hmin⟩ := hspec a w hJ
  refine Code.wp_mono ?_ (round (μ a w) (frOf a) w hI a hJ.1 hJ.2.1 rfl)
  rintro e a' w' ⟨k1, k2, k3⟩
  cases e with
  | normal =>
    obtain ⟨j, hj, hIj⟩ := k3
    have hJ' : J a' w' := ⟨k1, k2, j, hIj⟩
    exact ⟨hJ', Nat.lt_of_le_of_lt ((hspec a' w' hJ').2 j hIj) hj⟩
  | exit id' => exact ⟨k1, k2, k3⟩
  | goto l => exact ⟨k1, k2, k3⟩
  | ret => exact ⟨k1, k2, k3⟩
  | panic c => exact ⟨k1, k2, k3⟩
  | outgrown => exact ⟨k1, k2, k3⟩
theorem WC.region {id : Nat} {l : List Oper} (h : WL P l.toArray l n f w Q) : WC P (.region id l.toArray false) n f w Q :=
  fun a h1 h2 h3 => wp_region_lit (h a h1 h2 h3)
end code
section lists
variable {P : Program} {ops : Array Oper} {l : List Oper} {n : Nat} {f : Fr} {w : World} {Q : Exit → Fr → World → Prop} {o : Oper}
theorem WL.nil (h : Q .normal f w) : WL P ops [] n f w Q := fun _ h1 h2 h3 => ⟨h1, h2, by rw [h3]; exact h⟩
def dstOk (n : Nat) : Option Nat → Bool
  | some d => decide (d < n)
  | none => true
theorem dstOk_spec {n : Nat} {d : Option Nat} (h : dstOk n d = true) : ∀ k, d = some k → k < n := by
  intro k e; subst e; simpa [dstOk] using h
theorem WL.val {v : Value} {w' : World} (hg : o.guard = none) (hd : dstOk n o.dst = true) (hr : (execOp (ev f) o).run P w = .ok (.value v) w')
    (k : WL P ops l n (updO f o.dst v) w' Q) : WL P ops (o :: l) n f w Q := by
  intro a h1 h2 h3
  refine wpList_plain hg fun K hK => ?_
  unfold Oper.wp
  rw [eval_eq, h3, hr]
  refine hK _ _ (k _ (by rw [size_put, h1]) (by rw [defers_put, h2]) ?_)
  rw [frOf_putO _ _ _ (by rw [h1]; exact dstOk_spec hd), h3]
theorem WL.skp {w' : World} (hg : o.guard = none) (hd : o.dst = none) (hr : (execOp (ev f) o).run P w = .ok .skip w')
    (k : WL P ops l n f w' Q) : WL P ops (o :: l) n f w Q := by
  intro a h1 h2 h3
  refine wpList_plain hg fun K hK => ?_
  unfold Oper.wp
  rw [eval_eq, h3, hr]
  refine hK _ _ (k _ (by rw [size_put, h1]) (by rw [defers_put, h2]) ?_)
  rw [hd]; exact h3
def CallsR (P : Program) (g : Nat) (args : Array Value) (w : World) (S : Value → World → Prop) : Prop :=
  Calls P g args w fun e w' => ∃ v, e = .returned v ∧ S v w'
theorem CallsR.mono {g : Nat} {args : Array Value} {w : World} {S S' : Value → World → Prop} (h : CallsR P g args w S) (hs : ∀ v w', S v w' → S' v w') : CallsR P g args w S' :=
  Calls.mono h fun _ _ ⟨v, he, hv⟩ => ⟨v, he, hs v _ hv⟩
theorem WL.enter {g : Nat} {args : Array Value} {S : Value → World → Prop} (hg : o.guard = none) (hd : dstOk n o.dst = true)
    (hr : (execOp (ev f) o).run P w = .ok (.enter g args) w) (c : CallsR P g args w S)
    (k : ∀ v w', S v w' → WL P ops l n (updO f o.dst v) w' Q) : WL P ops (o :: l) n f w Q := by
  intro a h1 h2 h3
  refine wpList_plain hg fun K hK => ?_
  unfold Oper.wp
  rw [eval_eq, h3, hr]
  refine Calls.mono c ?_
  rintro e w' ⟨v, rfl, hv⟩
  refine hK _ _ (k v w' hv _ (by rw [size_put, h1]) (by rw [defers_put, h2]) ?_)
  rw [frOf_putO _ _ _ (by rw [h1]; exact dstOk_spec hd), h3]
def yf (ops : Array Oper) (f : Fr) (j : Nat) : Option Bool :=
  match (ops[j]?).bind (·.dst) with
  | some d => match f d with
    | .bool b => some b
    | _ => none
  | none => none
theorem yielded_eq (a : Act) (j : Nat) (b : Bool) (h : yf ops (frOf a) j = some b) : yielded ops a.tmps j = some b := by
  unfold yf at h
  unfold yielded
  cases hd : (ops[j]?).bind (·.dst) with
  | none => rw [hd] at h; cases h
  | some d =>
    rw [hd] at h
    simp only [frOf, Array.getD_eq_getD_getElem?] at h
    simp only [Option.bind_some]
    cases hv : a.tmps[d]? with
    | none => rw [hv] at h; simp [undef] at h
    | some v =>
      rw [hv] at h
      simp only [Option.getD_some] at h
      cases v <;> simp_all
theorem WL.guardT {d : Option Nat} {op : Op} {ty : TypeId} {pos : String} {aft : Array Edge} {j : Nat} {b : Bool} (hj : yf ops f j = some b)
    (k : WL P ops (⟨d, op, ty, pos, aft, none⟩ :: l) n f w Q) : WL P ops (⟨d, op, ty, pos, aft, some (j, b)⟩ :: l) n f w Q := by
  intro a h1 h2 h3
  have h := k a h1 h2 h3
  have hw : Region.wanted (⟨d, op, ty, pos, aft, some (j, b)⟩ : Oper) (yielded ops a.tmps) = true := by
    simp only [Region.wanted]
    rw [yielded_eq a j b (by rw [h3]; exact hj)]; simp
  unfold wpList at h ⊢
  rw [if_pos (by simp [Region.wanted])] at h
  rw [if_pos hw]
  exact h
theorem WL.guardF {d : Option Nat} {op : Op} {ty : TypeId} {pos : String} {aft : Array Edge} {j : Nat} {b b' : Bool} (hj : yf ops f j = some b') (hne : (b' == b) = false) (hd : dstOk n d = true)
    (k : WL P ops l n (updO f d undef) w Q) : WL P ops (⟨d, op, ty, pos, aft, some (j, b)⟩ :: l) n f w Q := by
  intro a h1 h2 h3
  have hw : Region.wanted (⟨d, op, ty, pos, aft, some (j, b)⟩ : Oper) (yielded ops a.tmps) = false := by
    simp only [Region.wanted]
    rw [yielded_eq a j b' (by rw [h3]; exact hj)]
    simpa using hne
  unfold wpList
  rw [if_neg (by rw [hw]; simp)]
  refine k _ (by rw [size_put, h1]) (by rw [defers_put, h2]) ?_
  rw [frOf_putO _ _ _ (by rw [h1]; exact dstOk_spec hd), h3]
theorem yielded_none (a : Act) (j : Nat) (h : yf ops (frOf a) j = none) : yielded ops a.tmps j = none := by
  unfold yf at h
  unfold yielded
  cases hd : (ops[j]?).bind (·.dst) with
  | none => rfl
  | some d =>
    rw [hd] at h
    simp only [frOf, Array.getD_eq_getD_getElem?] at h
    simp only [Option.bind_some]
    cases hv : a.tmps[d]? with
    | none => rfl
    | some v =>
      rw [hv] at h
      simp only [Option.getD_some] at h
      cases v <;> simp_all
theorem WL.guardU {d : Option Nat} {op : Op} {ty : TypeId} {pos : String} {aft : Array Edge} {j : Nat} {b : Bool} (hj : yf ops f j = none) (hd : dstOk n d = true)
    (k : WL P ops l n (updO f d undef) w Q) : WL P ops (⟨d, op, ty, pos, aft, some (j, b)⟩ :: l) n f w Q := by
  intro a h1 h2 h3
  have hw : Region.wanted (⟨d, op, ty, pos, aft, some (j, b)⟩ : Oper) (yielded ops a.tmps) = false := by
    simp only [Region.wanted]
    rw [yielded_none a j (by rw [h3]; exact hj)]; rfl
  unfold wpList
  rw [if_neg (by rw [hw]; simp)]
  refine k _ (by rw [size_put, h1]) (by rw [defers_put, h2]) ?_
  rw [frOf_putO _ _ _ (by rw [h1]; exact dstOk_spec hd), h3]
end lists
section calls
variable {P : Program}
def Res (P : Program) (fn : Func) (n : Nat) (f : Fr) (w : World) (v : Value) : Prop :=
  ∀ a : Act, a.tmps.size = n → frOf a = f → (results fn a.tmps).run P w = .ok v w
def Fin (P : Program) (fn : Func) (n : Nat) (S : Value → World → Prop) : Exit → Fr → World → Prop
  | .normal, f, w | .ret, f, w => ∃ v, Res P fn n f w v ∧ S v w
  | _, _, _ => False
theorem callsR_of {i : Nat} {fn : Func} {c : Code} {args : Array Value} {w : World} {n : Nat} {S : Value → World → Prop} (hf : P.funcs[i]? = some fn) (hb : fn.body = some c)
    (hn : fn.ntmps = n) (ha' : decide (args.size ≤ n) = true) (h : WC P c n (fun t => args.getD t undef) w (Fin P fn n S)) : CallsR P i args w S := by
  have ha : args.size ≤ n := of_decide_eq_true ha'
  refine calls_of_wp hf hb ?_
  have hsz : (args ++ Array.replicate (fn.ntmps - args.size) undef).size = n := by simp; omega
  refine Code.wp_mono ?_ (h ⟨args ++ Array.replicate (fn.ntmps - args.size) undef, []⟩ hsz rfl ?_)
  · rintro e a w' ⟨k1, k2, k3⟩
    cases e with
    | normal => obtain ⟨v, hv, hs⟩ := k3; exact ⟨k2, v, hv a k1 rfl, v, rfl, hs⟩
    | ret => obtain ⟨v, hv, hs⟩ := k3; exact ⟨k2, v, hv a k1 rfl, v, rfl, hs⟩
    | exit id => exact k3.elim
    | goto l => exact k3.elim
    | panic c => exact k3.elim
    | outgrown => exact k3.elim
  · funext t
    simp only [frOf, Array.getD_eq_getD_getElem?, Array.getElem?_append]
    split
    · rfl
    · rename_i hlt
      rw [Array.getElem?_eq_none (xs := args) (by omega)]
      simp only [Array.getElem?_replicate]
      split <;> rfl
theorem Res.one {fn : Func} {n : Nat} {f : Fr} {w : World} {t : Nat} {v : Value} (h : fn.results = #[.tmp t]) (hv : f t = v) : Res P fn n f w v := by
  intro a _ ha
  rw [results_tmp h, ← hv, ← ha]; rfl
theorem Res.two {fn : Func} {n : Nat} {f : Fr} {w : World} {t u : Nat} {v v' : Value} (h : fn.results = #[.tmp t, .tmp u]) (hv : f t = v) (hv' : f u = v') : Res P fn n f w (.tuple #[v, v']) := by
  intro a _ ha
  rw [results_tmp2 h, ← hv, ← hv', ← ha]; rfl
theorem Res.zero {fn : Func} {n : Nat} {f : Fr} {w : World} (h : fn.results = #[]) : Res P fn n f w (.tuple #[]) := by
  intro a _ _
  rw [results_none h]
theorem Res.cell {fn : Func} {n : Nat} {f : Fr} {w : World} {t ty b o : Nat} {v : Value} (h : fn.results = #[.cell t ty]) (hp : f t = .pointer (some ⟨b, o, none⟩)) (hv : (loadVar ty ⟨b, o, none⟩).run P w = .ok v w) : Res P fn n f w v := by
  intro a _ ha
  have e : a.tmps.getD t undef = .pointer (some ⟨b, o, none⟩) := by rw [← hp, ← ha]; rfl
  rw [Array.getD_eq_getD_getElem?] at e
  simp [results, h, asAddr, e, hv, Result.andThen]
theorem Res.cellTmp {fn : Func} {n : Nat} {f : Fr} {w : World} {t ty b o u : Nat} {v v' : Value} (h : fn.results = #[.cell t ty, .tmp u]) (hp : f t = .pointer (some ⟨b, o, none⟩)) (hv : (loadVar ty ⟨b, o, none⟩).run P w = .ok v w) (hu : f u = v') : Res P fn n f w (.tuple #[v, v']) := by
  intro a _ ha
  have e : a.tmps.getD t undef = .pointer (some ⟨b, o, none⟩) := by rw [← hp, ← ha]; rfl
  have e' : a.tmps.getD u undef = v' := by rw [← hu, ← ha]; rfl
  rw [Array.getD_eq_getD_getElem?] at e e'
  simp [results, h, asAddr, e, hv, e', Result.andThen]
theorem Res.three {fn : Func} {n : Nat} {f : Fr} {w : World} {t u r : Nat} {v v' v'' : Value} (h : fn.results = #[.tmp t, .tmp u, .tmp r]) (hv : f t = v) (hv' : f u = v') (hv'' : f r = v'') : Res P fn n f w (.tuple #[v, v', v'']) := by
  intro a _ ha
  rw [results_tmp3 h, ← hv, ← hv', ← hv'', ← ha]; rfl
end calls
end Go.Ux
end
section
namespace Go.Ux
open Go
abbrev ptr (b o : Nat) : Value := .pointer (some ⟨b, o, none⟩)
structure Mod (O : Nat → Prop) (w w' : World) : Prop where
  os : w'.os = w.os
  tape : w'.tape = w.tape
  output : w'.output = w.output
  size : w.heap.size ≤ w'.heap.size
  block : ∀ k, k < w.heap.size → ¬ O k → w'.heap[k]? = w.heap[k]?
abbrev Ext (w w' : World) : Prop := Mod (fun _ => False) w w'
theorem Mod.refl (O : Nat → Prop) (w : World) : Mod O w w := ⟨rfl, rfl, rfl, Nat.le_refl _, fun _ _ _ => rfl⟩
theorem Mod.trans {O : Nat → Prop} {a b c : World} (h : Mod O a b) (k : Mod O b c) : Mod O a c :=
  ⟨k.os.trans h.os, k.tape.trans h.tape, k.output.trans h.output, Nat.le_trans h.size k.size,
    fun i hi hO => (k.block i (Nat.lt_of_lt_of_le hi h.size) hO).trans (h.block i hi hO)⟩
theorem Mod.imp {O O' : Nat → Prop} {a b : World} (h : Mod O a b) (k : ∀ i, i < a.heap.size → O i → O' i) : Mod O' a b :=
  ⟨h.os, h.tape, h.output, h.size, fun i hi hO => h.block i hi fun x => hO (k i hi x)⟩
theorem Mod.then {O O' : Nat → Prop} {a b c : World} (h : Mod O a b) (k : Mod O' b c) (hO : ∀ i, i < a.heap.size → O' i → O i) : Mod O a c :=
  ⟨k.os.trans h.os, k.tape.trans h.tape, k.output.trans h.output, Nat.le_trans h.size k.size,
    fun i hi hn => (k.block i (Nat.lt_of_lt_of_le hi h.size) fun x => hn (hO i hi x)).trans (h.block i hi hn)⟩
theorem Mod.ext {O : Nat → Prop} {a b : World} (h : Ext a b) : Mod O a b := h.imp fun _ _ h => h.elim
theorem Mod.drew (O : Nat → Prop) (w : World) : Mod O w { w with drawn := w.drawn + 1 } := ⟨rfl, rfl, rfl, Nat.le_refl _, fun _ _ _ => rfl⟩
theorem Mod.cell {O : Nat → Prop} {w w' : World} (h : Mod O w w') {a : Addr} {v : Value} (hc : w.cell? a = some v) (hO : ¬ O a.block) : w'.cell? a = some v :=
  (World.cell?_of_block (h.block a.block (World.block_lt_of_cell? w a hc) hO)).trans hc
theorem Mod.below {w w' : World} (h : Ext w w') : RowKit.Below w.heap.size w w' := ⟨h.os, h.tape, h.output, h.size, fun k hk => h.block k hk (fun x => x)⟩
def Blk (w : World) (b : Nat) (cs : Array Value) (t : TypeId) : Prop := w.heap[b]? = some (.cells cs t (0, 0))
theorem Blk.lt {w : World} {b : Nat} {cs : Array Value} {t : TypeId} (h : Blk w b cs t) : b < w.heap.size := (Array.getElem?_eq_some_iff.1 h).1
theorem Blk.mod {O : Nat → Prop} {w w' : World} {b : Nat} {cs : Array Value} {t : TypeId} (h : Blk w b cs t) (m : Mod O w w') (hO : ¬ O b) : Blk w' b cs t :=
  (m.block b h.lt hO).trans h
theorem Blk.ext {w w' : World} {b : Nat} {cs : Array Value} {t : TypeId} (h : Blk w b cs t) (m : Ext w w') : Blk w' b cs t := h.mod m fun x => x
theorem Blk.cell {w : World} {b : Nat} {cs : Array Value} {t : TypeId} (h : Blk w b cs t) {j : Nat} {v : Value} (hv : cs[j]? = some v) : w.cell? ⟨b, j, none⟩ = some v := by
  unfold Blk at h; simp [World.cell?, h, hv]
theorem Blk.frozen {w : World} {b : Nat} {cs : Array Value} {t : TypeId} (h : Blk w b cs t) (j : Nat) : w.frozen? ⟨b, j, none⟩ = false := by
  unfold Blk at h; simp [World.frozen?, h]
theorem alloc_ext (w : World) (o : Obj) : Ext w (w.alloc o) :=
  ⟨rfl, rfl, rfl, by simp, fun k hk _ => RowKit.Below.heap_alloc w o k hk⟩
theorem alloc_blk (w : World) (cs : Array Value) (t : TypeId) : Blk (w.alloc (.cells cs t)) w.heap.size cs t := heap_alloc_new w _
structure New (w w' : World) (b : Nat) (cs : Array Value) (t : TypeId) : Prop where
  ext : Ext w w'
  blk : Blk w' b cs t
  num : b = w.heap.size
  size : w'.heap.size = w.heap.size + 1
theorem New.mk' (w : World) (cs : Array Value) (t : TypeId) : New w (w.alloc (.cells cs t)) w.heap.size cs t :=
  ⟨alloc_ext w _, alloc_blk w cs t, rfl, by simp⟩
theorem setCell_mod (w : World) (b j : Nat) (v : Value) : Mod (· = b) w (w.setCell ⟨b, j, none⟩ v) :=
  ⟨rfl, rfl, rfl, by simp [World.setCell], fun k _ hk => RowKit.Below.heap_setCell w _ v k hk⟩
theorem setCell_blk {w : World} {b : Nat} {cs : Array Value} {t : TypeId} (h : Blk w b cs t) (j : Nat) (v : Value) : Blk (w.setCell ⟨b, j, none⟩ v) b (cs.setIfInBounds j v) t := by
  unfold Blk at *
  simp only [World.setCell, Array.getElem?_modify, if_pos, h, Option.map_some]
  rfl
def isAggT (P : Program) (t : Nat) : Option Bool :=
  match P.underlying t with
  | some (.struct _) | some (.array _ _) => some true
  | some _ => some false
  | none => none
def sizeT (P : Program) (t : Nat) : Option Nat := (P.info? t).map (·.size)
def fieldOff (P : Program) (s k : Nat) : Option Nat :=
  match P.underlying s with
  | some (.struct fs) => match fs[k]? with
    | some f => match P.info? f.type with
      | some i => if i.size = 0 then none else some f.offset
      | none => none
    | none => none
  | _ => none
def elemT (P : Program) (t : Nat) : Option Nat :=
  match P.underlying t with
  | some (.slice e) => some e
  | _ => none
theorem isAggT_run {P : Program} {t : Nat} {b : Bool} (h : isAggT P t = some b) (w : World) : (isAgg t).run P w = .ok b w := by
  unfold isAggT at h
  cases hu : P.underlying t with
  | none => rw [hu] at h; cases h
  | some d =>
    rw [hu] at h
    simp only [isAgg, Sem.run_bind, run_underlying hu, Result.andThen]
    cases d <;> simp_all
theorem sizeT_run {P : Program} {t : Nat} {m : Nat} (h : sizeT P t = some m) (w : World) : (sizeOf t).run P w = .ok m w := by
  unfold sizeT at h
  obtain ⟨i, hi, rfl⟩ := Option.map_eq_some_iff.1 h
  simp [sizeOf, typeInfo, hi, go_sem]
theorem addr_add (b o j : Nat) : (⟨b, o, none⟩ : Addr).add j = ⟨b, o + j, none⟩ := by unfold Addr.add; split <;> simp_all
section ops
variable {P : Program} {ops : Array Oper} {l : List Oper} {n : Nat} {f : Fr} {w : World} {Q : Exit → Fr → World → Prop}
variable {d : Nat} {ty : TypeId} {pos : String} {aft : Array Edge}
theorem WL.move {x : Operand} {v : Value} (hx : ev f x = v) (hd : decide (d < n) = true) (k : WL P ops l n (upd f d v) w Q) :
    WL P ops (⟨some d, .move x, ty, pos, aft, none⟩ :: l) n f w Q :=
  WL.val rfl hd (v := v) (w' := w) (by rw [← hx]; rfl) k
theorem WL.assign {x : Operand} {v : Value} (hx : ev f x = v) (hd : decide (d < n) = true) (k : WL P ops l n (upd f d v) w Q) :
    WL P ops (⟨some d, .assign x, ty, pos, aft, none⟩ :: l) n f w Q :=
  WL.val rfl hd (v := v) (w' := w) (by rw [← hx]; rfl) k
theorem WL.pick {c x y : Operand} {b : Bool} {v : Value} (hc : ev f c = .bool b) (hv : (if b then ev f x else ev f y) = v) (hd : decide (d < n) = true)
    (k : WL P ops l n (upd f d v) w Q) : WL P ops (⟨some d, .pick c x y, ty, pos, aft, none⟩ :: l) n f w Q :=
  WL.val rfl hd (v := v) (w' := w) (by simp [execOp, hc, asBool, hv]) k
theorem WL.extract {x : Operand} {i : Nat} {vs : Array Value} {v : Value} (hx : ev f x = .tuple vs) (hv : vs[i]? = some v) (hd : decide (d < n) = true)
    (k : WL P ops l n (upd f d v) w Q) : WL P ops (⟨some d, .extract x i, ty, pos, aft, none⟩ :: l) n f w Q :=
  WL.val rfl hd (v := v) (w' := w) (by simp [execOp, hx, Instr.extract, hv]) k
def BinR (P : Program) (op : BinOp) (t : TypeId) (vx vy v : Value) : Prop :=
  ∀ (x y : Operand) (w : World), ((do eqGuard op t x y vx vy; binOp op t vx vy : Sem Value)).run P w = .ok v w
theorem WL.bin {op : BinOp} {t u : TypeId} {x y : Operand} {vx vy v : Value} (hx : ev f x = vx) (hy : ev f y = vy) (hd : decide (d < n) = true) (b : BinR P op t vx vy v)
    (k : WL P ops l n (upd f d v) w Q) : WL P ops (⟨some d, .binOp op t x y u, ty, pos, aft, none⟩ :: l) n f w Q :=
  WL.val rfl hd (v := v) (w' := w) (by simp only [execOp, hx, hy]; rw [Sem.run_bind, b x y w]; simp [Result.andThen]) k
def UnR (P : Program) (op : UnOp) (vx v : Value) : Prop := ∀ w : World, (Op.unary op vx).run P w = .ok v w
theorem WL.un {op : UnOp} {t : TypeId} {x : Operand} {vx v : Value} (hx : ev f x = vx) (hd : decide (d < n) = true) (b : UnR P op vx v)
    (k : WL P ops l n (upd f d v) w Q) : WL P ops (⟨some d, .unOp op t x, ty, pos, aft, none⟩ :: l) n f w Q :=
  WL.val rfl hd (v := v) (w' := w) (by simp only [execOp, hx]; rw [Sem.run_bind, b w]; simp [Result.andThen]) k
def ConvR (P : Program) (s t : TypeId) (vx v : Value) : Prop := ∀ w : World, (convert s t vx).run P w = .ok v w
theorem WL.conv {s t : TypeId} {x : Operand} {vx v : Value} (hx : ev f x = vx) (hd : decide (d < n) = true) (b : ConvR P s t vx v)
    (k : WL P ops l n (upd f d v) w Q) : WL P ops (⟨some d, .convert s t x, ty, pos, aft, none⟩ :: l) n f w Q :=
  WL.val rfl hd (v := v) (w' := w) (by simp only [execOp, hx]; rw [Sem.run_bind, b w]; simp [Result.andThen]) k
theorem WL.fieldAddr {s i : Nat} {x : Operand} {b o off : Nat} (hx : ev f x = ptr b o) (hf : fieldOff P s i = some off) (hd : decide (d < n) = true)
    (k : WL P ops l n (upd f d (ptr b (o + off))) w Q) : WL P ops (⟨some d, .fieldAddr s x i, ty, pos, aft, none⟩ :: l) n f w Q := by
  refine WL.val rfl hd (v := ptr b (o + off)) (w' := w) ?_ k
  unfold fieldOff at hf
  split at hf <;> try cases hf
  rename_i fs hu
  split at hf <;> try cases hf
  rename_i fd hfd
  split at hf <;> try cases hf
  rename_i inf hi
  split at hf <;> try cases hf
  rename_i hz
  simp [execOp, hx, Instr.fieldAt, run_underlying hu, hfd, Instr.sureAddr, fieldPlace, sizeOf, typeInfo, hi, hz, addr_add, Result.andThen]
theorem WL.field1 {s i : Nat} {x : Operand} {cs : Array Value} {off : Nat} {v : Value} {fs : Array Field} {fd : Field} (hx : ev f x = .agg cs) (hu : P.underlying s = some (.struct fs)) (hfd : fs[i]? = some fd)
    (ha : isAggT P fd.type = some false) (ho : fd.offset = off) (hv : cs[off]? = some v) (hd : decide (d < n) = true)
    (k : WL P ops l n (upd f d v) w Q) : WL P ops (⟨some d, .field s x i, ty, pos, aft, none⟩ :: l) n f w Q := by
  refine WL.val rfl hd (v := v) (w' := w) ?_ k
  subst ho
  simp [execOp, hx, Instr.field, run_underlying hu, hfd, part, asAgg, isAggT_run ha, hv, Result.andThen]
theorem WL.load1 {t : Nat} {x : Operand} {b o : Nat} {v : Value} (hx : ev f x = ptr b o) (ht : isAggT P t = some false) (hc : w.cell? ⟨b, o, none⟩ = some v) (hd : decide (d < n) = true)
    (k : WL P ops l n (upd f d v) w Q) : WL P ops (⟨some d, .load t x, ty, pos, aft, none⟩ :: l) n f w Q :=
  WL.val rfl hd (v := v) (w' := w) (by simp [execOp, hx, Instr.loadAt, Instr.sureAddr, loadVar, isAggT_run ht, load, Sem.run, hc, Result.andThen]) k
def Cells (w : World) (b o : Nat) (vs : List Value) : Prop := ∀ j u, vs[j]? = some u → w.cell? ⟨b, o + j, none⟩ = some u
theorem Blk.cells {w : World} {b : Nat} {cs : Array Value} {t : TypeId} (h : Blk w b cs t) : Cells w b 0 cs.toList := by
  intro j u hj; rw [Nat.zero_add]; exact h.cell (by simpa using hj)
theorem Blk.sub {w : World} {b : Nat} {cs : Array Value} {t : TypeId} (h : Blk w b cs t) {o : Nat} {vs : List Value} (hv : (cs.toList.drop o).take vs.length = vs) : Cells w b o vs := by
  intro j u hj
  refine h.cell ?_
  rw [← hv, List.getElem?_take] at hj
  split at hj
  · rw [List.getElem?_drop] at hj; simpa using hj
  · cases hj
theorem Cells.mod {O : Nat → Prop} {w w' : World} {b o : Nat} {vs : List Value} (h : Cells w b o vs) (m : Mod O w w') (hO : ¬ O b) : Cells w' b o vs :=
  fun j u hj => m.cell (h j u hj) hO
theorem loadVar_agg {t m b o : Nat} {w : World} (vs : List Value) (ht : isAggT P t = some true) (hz : sizeT P t = some m) (hl : vs.length = m) (hc : Cells w b o vs) : (loadVar t ⟨b, o, none⟩).run P w = .ok (.agg vs.toArray) w := by
  have := run_loadCells_list (P := P) w ⟨b, o, none⟩ vs (fun j v hv => by rw [addr_add]; exact hc j v hv)
  simp [loadVar, isAggT_run ht, sizeT_run hz, ← hl, this, Result.andThen]
theorem WL.loadS {t : Nat} {x : Operand} {b o : Nat} (vs : List Value) {m : Nat} (hx : ev f x = ptr b o) (ht : isAggT P t = some true) (hz : sizeT P t = some m) (hl : vs.length = m) (hc : Cells w b o vs) (hd : decide (d < n) = true)
    (k : WL P ops l n (upd f d (.agg vs.toArray)) w Q) : WL P ops (⟨some d, .load t x, ty, pos, aft, none⟩ :: l) n f w Q := by
  refine WL.val rfl hd (v := .agg vs.toArray) (w' := w) ?_ k
  have := run_loadCells_list (P := P) w ⟨b, o, none⟩ vs (fun j v hv => by rw [addr_add]; exact hc j v hv)
  simp [execOp, hx, Instr.loadAt, Instr.sureAddr, loadVar, isAggT_run ht, sizeT_run hz, ← hl, this, Result.andThen]
theorem WL.store1 {t : Nat} {x y : Operand} {b o : Nat} {v u : Value} (hx : ev f x = ptr b o) (hy : ev f y = v) (hv : v.oneCell' = true) (hz : sizeT P t = some 1) (hc : w.cell? ⟨b, o, none⟩ = some u) (hf : w.frozen? ⟨b, o, none⟩ = false)
    (k : WL P ops l n f (w.setCell ⟨b, o, none⟩ v) Q) : WL P ops (⟨none, .store t x y, ty, pos, aft, none⟩ :: l) n f w Q := by
  refine WL.skp rfl rfl (w' := w.setCell ⟨b, o, none⟩ v) ?_ k
  have h1 : v.cells = #[v] := by cases v <;> simp_all [Value.oneCell', Value.cells]
  simp [execOp, hx, hy, Instr.storeAt, Instr.sureAddr, storeVar, sizeT_run hz, h1, storeCells, store, addr_add, Result.andThen]
  cases v <;> simp_all [Value.oneCell', Sem.run, Result.andThen]
end ops
end Go.Ux
end
section
namespace Go.Ux
open Go
abbrev I64 (x : BitVec 64) : Value := .int .i64 x.toInt
abbrev U64 (x : BitVec 64) : Value := .int .u64 (x.toNat : Int)
abbrev U32 (x : BitVec 32) : Value := .int .u32 (x.toNat : Int)
abbrev U8 (x : BitVec 8) : Value := .int .u8 (x.toNat : Int)
abbrev IN (k : Nat) : Value := .int .i64 (k : Int)
theorem wrap_i64_bv (n : Int) : IntKind.i64.wrap n = (BitVec.ofInt 64 n).toInt := by
  rw [BitVec.toInt_ofInt]
  simp only [IntKind.wrap, IntKind.bits, IntKind.signed, Int.bmod]
  simp
  split <;> split <;> omega
theorem wrap_u64_bv (n : Int) : IntKind.u64.wrap n = ((BitVec.ofInt 64 n).toNat : Int) := by
  rw [BitVec.toNat_ofInt]
  simp only [IntKind.wrap, IntKind.bits, IntKind.signed]
  simp; omega
theorem wrap_u32_bv (n : Int) : IntKind.u32.wrap n = ((BitVec.ofInt 32 n).toNat : Int) := by
  rw [BitVec.toNat_ofInt]
  simp only [IntKind.wrap, IntKind.bits, IntKind.signed]
  simp; omega
theorem wrap_u8_bv (n : Int) : IntKind.u8.wrap n = ((BitVec.ofInt 8 n).toNat : Int) := by
  rw [BitVec.toNat_ofInt]
  simp only [IntKind.wrap, IntKind.bits, IntKind.signed]
  simp; omega
theorem cI64 (n : Int) (h : -9223372036854775808 ≤ n ∧ n ≤ 9223372036854775807) : Value.int .i64 n = I64 (BitVec.ofInt 64 n) := by
  show Value.int .i64 n = Value.int .i64 (BitVec.ofInt 64 n).toInt
  rw [← wrap_i64_bv, IntWalk.i64_in _ (by omega)]
theorem eqGuard_int (op : BinOp) (t : TypeId) (x y : Operand) (k k' : IntKind) (a b : Int) {P : Program} (w : World) : (eqGuard op t x y (.int k a) (.int k' b)).run P w = .ok () w := by
  unfold eqGuard; cases op <;> simp [Sem.run_pure]
section
variable {P : Program} {t : TypeId}
theorem BinR.of_int {op : BinOp} {k k' : IntKind} {a b : Int} {v : Value} (h : ∀ w, (binOp op t (.int k a) (.int k' b)).run P w = .ok v w) : BinR P op t (.int k a) (.int k' b) v := by
  intro x y w
  rw [Sem.run_bind, eqGuard_int]
  exact h w
theorem BinR.add {k : IntKind} {a b : Int} : BinR P .add t (.int k a) (.int k b) (.int k (k.wrap (a + b))) := .of_int fun w => by simp [binOp, Op.intArith]
theorem BinR.sub {k : IntKind} {a b : Int} : BinR P .sub t (.int k a) (.int k b) (.int k (k.wrap (a - b))) := .of_int fun w => by simp [binOp, Op.intArith]
theorem BinR.mul {k : IntKind} {a b : Int} : BinR P .mul t (.int k a) (.int k b) (.int k (k.wrap (a * b))) := .of_int fun w => by simp [binOp, Op.intArith]
theorem BinR.addI {a b : Int} (h : -9223372036854775808 ≤ a + b ∧ a + b ≤ 9223372036854775807) : BinR P .add t (.int .i64 a) (.int .i64 b) (.int .i64 (a + b)) := by
  have := BinR.add (P := P) (t := t) (k := .i64) (a := a) (b := b)
  rwa [IntWalk.i64_in _ (by omega)] at this
theorem BinR.subI {a b : Int} (h : -9223372036854775808 ≤ a - b ∧ a - b ≤ 9223372036854775807) : BinR P .sub t (.int .i64 a) (.int .i64 b) (.int .i64 (a - b)) := by
  have := BinR.sub (P := P) (t := t) (k := .i64) (a := a) (b := b)
  rwa [IntWalk.i64_in _ (by omega)] at this
theorem BinR.mulI {a b : Int} (h : -9223372036854775808 ≤ a * b ∧ a * b ≤ 9223372036854775807) : BinR P .mul t (.int .i64 a) (.int .i64 b) (.int .i64 (a * b)) := by
  have := BinR.mul (P := P) (t := t) (k := .i64) (a := a) (b := b)
  rwa [IntWalk.i64_in _ (by omega)] at this
theorem BinR.succN {k : Nat} (h : k < 9223372036854775807) : BinR P .add t (IN k) (.int .i64 1) (IN (k + 1)) := by
  have := BinR.addI (P := P) (t := t) (a := (k : Int)) (b := 1) (by omega)
  have e : ((k + 1 : Nat) : Int) = (k : Int) + 1 := by omega
  show BinR P .add t (.int .i64 (k : Int)) (.int .i64 1) (.int .i64 ((k + 1 : Nat) : Int))
  rw [e]; exact this
theorem BinR.lss {k : IntKind} {a b : Int} : BinR P .lss t (.int k a) (.int k b) (.bool (decide (a < b))) := .of_int fun w => by simp [binOp, Op.intCmp]
theorem BinR.leq {k : IntKind} {a b : Int} : BinR P .leq t (.int k a) (.int k b) (.bool (decide (a ≤ b))) := .of_int fun w => by simp [binOp, Op.intCmp]
theorem BinR.gtr {k : IntKind} {a b : Int} : BinR P .gtr t (.int k a) (.int k b) (.bool (decide (b < a))) := .of_int fun w => by simp [binOp, Op.intCmp]
theorem BinR.geq {k : IntKind} {a b : Int} : BinR P .geq t (.int k a) (.int k b) (.bool (decide (b ≤ a))) := .of_int fun w => by simp [binOp, Op.intCmp]
theorem BinR.eql {k : IntKind} {a b : Int} : BinR P .eql t (.int k a) (.int k b) (.bool (a == b)) := .of_int fun w => by simp [binOp, Op.intCmp]
theorem BinR.neq {k : IntKind} {a b : Int} : BinR P .neq t (.int k a) (.int k b) (.bool (a != b)) := .of_int fun w => by simp [binOp, Op.intCmp]
theorem BinR.quoI {a b : Int} (ha : 0 ≤ a) (hb : 0 < b) (hx : a ≤ 9223372036854775807) : BinR P .quo t (.int .i64 a) (.int .i64 b) (.int .i64 (a / b)) := .of_int fun w => by
  have e : a.tdiv b = a / b := Int.tdiv_eq_ediv_of_nonneg ha
  have h1 : 0 ≤ a / b := Int.ediv_nonneg ha (by omega)
  have h2 : a / b ≤ a := Int.ediv_le_self b ha
  simp [binOp, Op.intDiv, show b ≠ 0 by omega, e, IntWalk.i64_in _ (⟨by omega, by omega⟩ : -9223372036854775808 ≤ a / b ∧ a / b ≤ 9223372036854775807)]
theorem BinR.remI {a b : Int} (ha : 0 ≤ a) (hb : b ≠ 0) : BinR P .rem t (.int .i64 a) (.int .i64 b) (.int .i64 (a % b)) := .of_int fun w => by
  simp [binOp, Op.intDiv, hb, Int.tmod_eq_emod_of_nonneg ha]
theorem toInt_ofInt_id (x : BitVec 64) : BitVec.ofInt 64 x.toInt = x := by simp
theorem ofInt_toNat_id {w : Nat} (x : BitVec w) : BitVec.ofInt w (x.toNat : Int) = x := by
  apply BitVec.eq_of_toNat_eq; simp
theorem BinR.add64 {x y : BitVec 64} : BinR P .add t (I64 x) (I64 y) (I64 (x + y)) := by
  have := BinR.add (P := P) (t := t) (k := .i64) (a := x.toInt) (b := y.toInt)
  rwa [wrap_i64_bv, BitVec.ofInt_add, toInt_ofInt_id, toInt_ofInt_id] at this
theorem BinR.sub64 {x y : BitVec 64} : BinR P .sub t (I64 x) (I64 y) (I64 (x - y)) := by
  have := BinR.sub (P := P) (t := t) (k := .i64) (a := x.toInt) (b := y.toInt)
  rw [wrap_i64_bv] at this
  have e : BitVec.ofInt 64 (x.toInt - y.toInt) = x - y := by rw [Int.sub_eq_add_neg, BitVec.ofInt_add, BitVec.ofInt_neg]; simp [BitVec.sub_eq_add_neg]
  rwa [e] at this
theorem BinR.addU64 {x y : BitVec 64} : BinR P .add t (U64 x) (U64 y) (U64 (x + y)) := by
  have := BinR.add (P := P) (t := t) (k := .u64) (a := x.toNat) (b := y.toNat)
  rwa [wrap_u64_bv, BitVec.ofInt_add, ofInt_toNat_id, ofInt_toNat_id] at this
theorem BinR.subU64 {x y : BitVec 64} : BinR P .sub t (U64 x) (U64 y) (U64 (x - y)) := by
  have := BinR.sub (P := P) (t := t) (k := .u64) (a := x.toNat) (b := y.toNat)
  rw [wrap_u64_bv] at this
  have e : BitVec.ofInt 64 ((x.toNat : Int) - y.toNat) = x - y := by rw [Int.sub_eq_add_neg, BitVec.ofInt_add, BitVec.ofInt_neg, ofInt_toNat_id, ofInt_toNat_id, BitVec.sub_eq_add_neg]
  rwa [e] at this
theorem BinR.mulU64 {x y : BitVec 64} : BinR P .mul t (U64 x) (U64 y) (U64 (x * y)) := by
  have := BinR.mul (P := P) (t := t) (k := .u64) (a := x.toNat) (b := y.toNat)
  rwa [wrap_u64_bv, BitVec.ofInt_mul, ofInt_toNat_id, ofInt_toNat_id] at this
theorem BinR.and64 {x y : BitVec 64} : BinR P .and t (I64 x) (I64 y) (I64 (x &&& y)) := .of_int fun w => by
  have e : Op.intBits .and .i64 x.toInt y.toInt = pure (.int .i64 (IntKind.i64.wrap ((x &&& y).toNat : Int))) := by unfold Op.intBits; simp only [IntKind.bits, toInt_ofInt_id]; rfl
  simp only [binOp, ne_eq, not_true_eq_false, if_false, e, wrap_i64_bv, ofInt_toNat_id, Sem.run_pure]
theorem BinR.or64 {x y : BitVec 64} : BinR P .or t (I64 x) (I64 y) (I64 (x ||| y)) := .of_int fun w => by
  have e : Op.intBits .or .i64 x.toInt y.toInt = pure (.int .i64 (IntKind.i64.wrap ((x ||| y).toNat : Int))) := by unfold Op.intBits; simp only [IntKind.bits, toInt_ofInt_id]; rfl
  simp only [binOp, ne_eq, not_true_eq_false, if_false, e, wrap_i64_bv, ofInt_toNat_id, Sem.run_pure]
theorem BinR.andU64 {x y : BitVec 64} : BinR P .and t (U64 x) (U64 y) (U64 (x &&& y)) := .of_int fun w => by
  have e : Op.intBits .and .u64 (x.toNat : Int) (y.toNat : Int) = pure (.int .u64 (IntKind.u64.wrap ((x &&& y).toNat : Int))) := by unfold Op.intBits; simp only [IntKind.bits, ofInt_toNat_id]; rfl
  simp only [binOp, ne_eq, not_true_eq_false, if_false, e, wrap_u64_bv, ofInt_toNat_id, Sem.run_pure]
theorem BinR.orU64 {x y : BitVec 64} : BinR P .or t (U64 x) (U64 y) (U64 (x ||| y)) := .of_int fun w => by
  have e : Op.intBits .or .u64 (x.toNat : Int) (y.toNat : Int) = pure (.int .u64 (IntKind.u64.wrap ((x ||| y).toNat : Int))) := by unfold Op.intBits; simp only [IntKind.bits, ofInt_toNat_id]; rfl
  simp only [binOp, ne_eq, not_true_eq_false, if_false, e, wrap_u64_bv, ofInt_toNat_id, Sem.run_pure]
theorem BinR.xorU64 {x y : BitVec 64} : BinR P .xor t (U64 x) (U64 y) (U64 (x ^^^ y)) := .of_int fun w => by
  have e : Op.intBits .xor .u64 (x.toNat : Int) (y.toNat : Int) = pure (.int .u64 (IntKind.u64.wrap ((x ^^^ y).toNat : Int))) := by unfold Op.intBits; simp only [IntKind.bits, ofInt_toNat_id]; rfl
  simp only [binOp, ne_eq, not_true_eq_false, if_false, e, wrap_u64_bv, ofInt_toNat_id, Sem.run_pure]
theorem shl_min (x : BitVec 64) (s : Nat) : BitVec.ofInt 64 (x.toInt * 2 ^ min s 64) = x <<< s := by
  rw [BitVec.ofInt_mul, toInt_ofInt_id]
  have e : BitVec.ofInt 64 (2 ^ min s 64 : Int) = BitVec.ofNat 64 (2 ^ min s 64) := by
    have : (2 ^ min s 64 : Int) = ((2 ^ min s 64 : Nat) : Int) := by norm_cast
    rw [this, BitVec.ofInt_natCast]
  rw [e]
  apply BitVec.eq_of_toNat_eq
  simp only [BitVec.toNat_mul, BitVec.toNat_ofNat, BitVec.toNat_shiftLeft, Nat.shiftLeft_eq, Nat.mul_mod_mod]
  by_cases h : s ≤ 64
  · rw [Nat.min_eq_left h]
  · rw [Nat.min_eq_right (by omega)]
    have : x.toNat * 2 ^ s = x.toNat * 2 ^ (s - 64) * 2 ^ 64 := by rw [Nat.mul_assoc, ← Nat.pow_add]; congr 2; omega
    rw [this]; simp
theorem shlU_min (x : BitVec 64) (s : Nat) : BitVec.ofInt 64 ((x.toNat : Int) * 2 ^ min s 64) = x <<< s := by
  have h := shl_min x s
  rw [BitVec.ofInt_mul, toInt_ofInt_id] at h
  rw [BitVec.ofInt_mul, ofInt_toNat_id, h]
theorem BinR.shl64 {x : BitVec 64} {yk : IntKind} {s : Nat} : BinR P .shl t (I64 x) (.int yk (s : Int)) (I64 (x <<< s)) := .of_int fun w => by
  have h0 : ¬ ((s : Int) < 0) := by omega
  simp only [binOp, Op.shift, if_neg h0, Int.toNat_natCast, IntKind.bits, Sem.run_pure, wrap_i64_bv, shl_min]
theorem BinR.shlU64 {x : BitVec 64} {yk : IntKind} {s : Nat} : BinR P .shl t (U64 x) (.int yk (s : Int)) (U64 (x <<< s)) := .of_int fun w => by
  have h0 : ¬ ((s : Int) < 0) := by omega
  simp only [binOp, Op.shift, if_neg h0, Int.toNat_natCast, IntKind.bits, Sem.run_pure, wrap_u64_bv, shlU_min]
theorem BinR.shrU64 {x : BitVec 64} {yk : IntKind} {s : Nat} : BinR P .shr t (U64 x) (.int yk (s : Int)) (U64 (x >>> s)) := .of_int fun w => by
  have h0 : ¬ ((s : Int) < 0) := by omega
  have e : (x.toNat : Int).fdiv (2 ^ min s 64) = ((x >>> s).toNat : Int) := by
    rw [Int.fdiv_eq_ediv_of_nonneg _ (Int.pow_nonneg (by decide)), BitVec.toNat_ushiftRight, Nat.shiftRight_eq_div_pow]
    by_cases h : s ≤ 64
    · rw [Nat.min_eq_left h]; norm_cast
    · rw [Nat.min_eq_right (by omega)]
      have h1 : x.toNat / 2 ^ s = 0 := Nat.div_eq_of_lt (Nat.lt_of_lt_of_le x.isLt (Nat.pow_le_pow_right (by decide) (by omega)))
      rw [h1]
      have := x.isLt
      omega
  simp only [binOp, Op.shift, if_neg h0, Int.toNat_natCast, IntKind.bits, Sem.run_pure, e]
theorem BinR.shr64 {x : BitVec 64} {yk : IntKind} {s : Nat} : BinR P .shr t (I64 x) (.int yk (s : Int)) (I64 (x.sshiftRight s)) := .of_int fun w => by
  have h0 : ¬ ((s : Int) < 0) := by omega
  have e : x.toInt.fdiv (2 ^ min s 64) = (x.sshiftRight s).toInt := by
    rw [Int.fdiv_eq_ediv_of_nonneg _ (Int.pow_nonneg (by decide)), BitVec.toInt_sshiftRight, Int.shiftRight_eq_div_pow]
    by_cases h : s ≤ 64
    · rw [Nat.min_eq_left h]; norm_cast
    · rw [Nat.min_eq_right (by omega)]
      have hx := BitVec.two_mul_toInt_lt (x := x)
      have hy := BitVec.le_two_mul_toInt (x := x)
      have hp : (2 : Int) ^ 64 ≤ ((2 ^ s : Nat) : Int) := by
        have := Nat.pow_le_pow_right (n := 2) (by decide) (show 64 ≤ s by omega)
        exact_mod_cast this
      rcases Int.lt_or_le x.toInt 0 with hn | hn
      · have e1 : x.toInt / 2 ^ 64 = -1 := by omega
        have e2 : x.toInt / ((2 ^ s : Nat) : Int) = -1 := by
          rw [Int.ediv_eq_iff_of_pos (by omega)]; omega
        rw [e1, e2]
      · have e1 : x.toInt / 2 ^ 64 = 0 := by omega
        rw [e1, Int.ediv_eq_zero_of_lt hn (by omega)]
  simp only [binOp, Op.shift, if_neg h0, Int.toNat_natCast, IntKind.bits, Sem.run_pure, e]
theorem BinR.lss64 {x y : BitVec 64} : BinR P .lss t (I64 x) (I64 y) (.bool (x.slt y)) := by
  have := BinR.lss (P := P) (t := t) (k := .i64) (a := x.toInt) (b := y.toInt); rwa [← BitVec.slt_eq_decide] at this
theorem BinR.lssU64 {x y : BitVec 64} : BinR P .lss t (U64 x) (U64 y) (.bool (x.ult y)) := by
  have := BinR.lss (P := P) (t := t) (k := .u64) (a := x.toNat) (b := y.toNat)
  have e : decide ((x.toNat : Int) < (y.toNat : Int)) = x.ult y := by simp [BitVec.ult]
  rwa [e] at this
theorem eqB {x y : BitVec 64} : (x.toInt == y.toInt) = (x == y) := by
  rw [Bool.eq_iff_iff, beq_iff_eq, beq_iff_eq]; exact ⟨BitVec.eq_of_toInt_eq, fun h => by rw [h]⟩
theorem eqUB {w : Nat} {x y : BitVec w} : ((x.toNat : Int) == (y.toNat : Int)) = (x == y) := by
  rw [Bool.eq_iff_iff, beq_iff_eq, beq_iff_eq]; exact ⟨fun h => BitVec.eq_of_toNat_eq (by omega), fun h => by rw [h]⟩
theorem BinR.eql64 {x y : BitVec 64} : BinR P .eql t (I64 x) (I64 y) (.bool (x == y)) := by
  have := BinR.eql (P := P) (t := t) (k := .i64) (a := x.toInt) (b := y.toInt); rwa [eqB] at this
theorem BinR.neq64 {x y : BitVec 64} : BinR P .neq t (I64 x) (I64 y) (.bool (x != y)) := by
  have := BinR.neq (P := P) (t := t) (k := .i64) (a := x.toInt) (b := y.toInt); rwa [bne, eqB, ← bne] at this
theorem BinR.eqlU64 {x y : BitVec 64} : BinR P .eql t (U64 x) (U64 y) (.bool (x == y)) := by
  have := BinR.eql (P := P) (t := t) (k := .u64) (a := x.toNat) (b := y.toNat); rwa [eqUB] at this
theorem BinR.neqU64 {x y : BitVec 64} : BinR P .neq t (U64 x) (U64 y) (.bool (x != y)) := by
  have := BinR.neq (P := P) (t := t) (k := .u64) (a := x.toNat) (b := y.toNat); rwa [bne, eqUB, ← bne] at this
theorem BinR.geq64 {x y : BitVec 64} : BinR P .geq t (I64 x) (I64 y) (.bool (y.sle x)) := by
  have := BinR.geq (P := P) (t := t) (k := .i64) (a := x.toInt) (b := y.toInt); rwa [← BitVec.sle_eq_decide] at this
theorem BinR.quo64 {x y : BitVec 64} (h : y ≠ 0#64) : BinR P .quo t (I64 x) (I64 y) (I64 (x.sdiv y)) := .of_int fun w => by
  have h0 : y.toInt ≠ 0 := fun e => h (BitVec.eq_of_toInt_eq (by simpa using e))
  simp only [binOp, ne_eq, not_true_eq_false, if_false, Op.intDiv, if_neg h0, Sem.run_pure, wrap_i64_bv]
  have e : BitVec.ofInt 64 (x.toInt.tdiv y.toInt) = x.sdiv y := by apply BitVec.eq_of_toInt_eq; rw [BitVec.toInt_ofInt, BitVec.toInt_sdiv]
  rw [e]
theorem BinR.rem64 {x y : BitVec 64} (h : y ≠ 0#64) : BinR P .rem t (I64 x) (I64 y) (I64 (x.srem y)) := .of_int fun w => by
  have h0 : y.toInt ≠ 0 := fun e => h (BitVec.eq_of_toInt_eq (by simpa using e))
  simp only [binOp, ne_eq, not_true_eq_false, if_false, Op.intDiv, if_neg h0, Sem.run_pure]
  show _ = Result.ok (Value.int IntKind.i64 (x.srem y).toInt) w
  rw [BitVec.toInt_srem]
theorem BinR.quoU64 {x y : BitVec 64} (h : y ≠ 0#64) : BinR P .quo t (U64 x) (U64 y) (U64 (x / y)) := .of_int fun w => by
  have h0 : (y.toNat : Int) ≠ 0 := fun e => h (BitVec.eq_of_toNat_eq (by simpa using e))
  simp only [binOp, ne_eq, not_true_eq_false, if_false, Op.intDiv, if_neg h0, Sem.run_pure, wrap_u64_bv]
  have e : BitVec.ofInt 64 ((x.toNat : Int).tdiv y.toNat) = x / y := by
    rw [Int.tdiv_eq_ediv_of_nonneg (by omega)]
    have : ((x.toNat : Int) / (y.toNat : Int)) = ((x / y).toNat : Int) := by rw [BitVec.toNat_udiv]; norm_cast
    rw [this, ofInt_toNat_id]
  rw [e]
theorem BinR.remU64 {x y : BitVec 64} (h : y ≠ 0#64) : BinR P .rem t (U64 x) (U64 y) (U64 (x % y)) := .of_int fun w => by
  have h0 : (y.toNat : Int) ≠ 0 := fun e => h (BitVec.eq_of_toNat_eq (by simpa using e))
  simp only [binOp, ne_eq, not_true_eq_false, if_false, Op.intDiv, if_neg h0, Sem.run_pure]
  have e : (x.toNat : Int).tmod y.toNat = ((x % y).toNat : Int) := by rw [Int.tmod_eq_emod_of_nonneg (by omega), BitVec.toNat_umod]; norm_cast
  rw [e]
theorem BinR.neqB {a b : Bool} (h : P.underlying t = some .bool) : BinR P .neq t (.bool a) (.bool b) (.bool (a != b)) := fun x y w => by
  simp only [eqGuard, binOp, Sem.run_bind, run_equal_bool (h := h), Sem.run_pure, Result.andThen]; simp [bne]
theorem equalIn_funcnil (d : Nat) {ps rs : Array TypeId} {b : Bool} (fn : Fn) (u v : Array Value) (h : P.underlying t = some (.func ps rs b)) (w : World) : (Op.equalIn (d + 1) t (.func fn u v) .nilFunc).run P w = .ok false w := by
  simp [Op.equalIn, run_underlying h]
theorem equalIn_nilnil (d : Nat) {ps rs : Array TypeId} {b : Bool} (h : P.underlying t = some (.func ps rs b)) (w : World) : (Op.equalIn (d + 1) t .nilFunc .nilFunc).run P w = .ok true w := by
  simp [Op.equalIn, run_underlying h]
theorem BinR.eqlFnil {ps rs : Array TypeId} {b : Bool} {fn : Fn} {u v : Array Value} (h : P.underlying t = some (.func ps rs b)) : BinR P .eql t (.func fn u v) .nilFunc (.bool false) := fun x y w => by
  have e : (Op.equal t (.func fn u v) .nilFunc).run P w = .ok false w := equalIn_funcnil 9999 fn u v h w
  simp only [eqGuard, binOp, Sem.run_bind, Sem.run_pure, Result.andThen]; simp [e]
theorem BinR.eqlNil {ps rs : Array TypeId} {b : Bool} (h : P.underlying t = some (.func ps rs b)) : BinR P .eql t .nilFunc .nilFunc (.bool true) := fun x y w => by
  have e : (Op.equal t .nilFunc .nilFunc).run P w = .ok true w := equalIn_nilnil 9999 h w
  simp only [eqGuard, binOp, Sem.run_bind, Sem.run_pure, Result.andThen]; simp [e]
theorem UnR.not {b : Bool} : UnR P .not (.bool b) (.bool !b) := fun w => by simp [Op.unary]
theorem UnR.neg64 {x : BitVec 64} : UnR P .neg (I64 x) (I64 (-x)) := fun w => by
  simp only [Op.unary, Op.intArith]; simp [wrap_i64_bv, BitVec.ofInt_neg]
theorem UnR.negU64 {x : BitVec 64} : UnR P .neg (U64 x) (U64 (-x)) := fun w => by
  simp only [Op.unary, Op.intArith, Sem.run_pure, wrap_u64_bv]
  have e : BitVec.ofInt 64 (0 - (x.toNat : Int)) = -x := by rw [Int.zero_sub, BitVec.ofInt_neg, ofInt_toNat_id]
  rw [e]
theorem ConvR.int {s u : TypeId} {k k' : IntKind} {a : Int} {td : TypeDesc} (h1 : P.underlying s = some td) (h2 : P.underlying u = some (.int k')) : ConvR P s u (.int k a) (.int k' (k'.wrap a)) := fun w => by
  simp [convert, run_underlying h1, run_underlying h2, Conv.intToInt]
theorem ConvR.i64u64 {s u : TypeId} {x : BitVec 64} {td : TypeDesc} (h1 : P.underlying s = some td) (h2 : P.underlying u = some (.int .u64)) : ConvR P s u (I64 x) (U64 x) := by
  have := ConvR.int (k := .i64) (a := x.toInt) h1 h2; rwa [wrap_u64_bv, toInt_ofInt_id] at this
theorem ConvR.u64i64 {s u : TypeId} {x : BitVec 64} {td : TypeDesc} (h1 : P.underlying s = some td) (h2 : P.underlying u = some (.int .i64)) : ConvR P s u (U64 x) (I64 x) := by
  have := ConvR.int (k := .u64) (a := x.toNat) h1 h2; rwa [wrap_i64_bv, ofInt_toNat_id] at this
theorem ConvR.toI {s u : TypeId} {k : IntKind} {a : Int} {td : TypeDesc} (h1 : P.underlying s = some td) (h2 : P.underlying u = some (.int .i64)) (h : -9223372036854775808 ≤ a ∧ a ≤ 9223372036854775807) : ConvR P s u (.int k a) (.int .i64 a) := by
  have := ConvR.int (k := k) (a := a) h1 h2; rwa [IntWalk.i64_in _ (by omega)] at this
end
end Go.Ux
end
section
namespace Go.Ux
open Go
def callable (P : Program) (g : Nat) : Bool :=
  match P.funcs[g]? with
  | some fn => !(fn.name == "runtime.NumGoroutine") && fn.body.isSome
  | none => false
theorem callable_run {P : Program} {g : Nat} (h : callable P g = true) (args : Array Value) (w : World) : (callFunc g args).run P w = .ok (.enter g args) w := by
  unfold callable at h
  cases hf : P.funcs[g]? with
  | none => rw [hf] at h; cases h
  | some fn =>
    rw [hf] at h
    simp only [Bool.and_eq_true, Bool.not_eq_true'] at h
    obtain ⟨h1, h2⟩ := h
    have h3 : ¬ fn.body = none := by intro hb; simp [hb] at h2
    have h1' : ¬ fn.name = "runtime.NumGoroutine" := by simpa using h1
    simp [callFunc, program, Sem.run, hf, h1', h3]
section ops
variable {P : Program} {ops : Array Oper} {l : List Oper} {n : Nat} {f : Fr} {w : World} {Q : Exit → Fr → World → Prop}
variable {d : Nat} {ty : TypeId} {pos : String} {aft : Array Edge}
theorem WL.call {g : Nat} {args : Array Operand} {ats : Array TypeId} {vs : List Value} {S : Value → World → Prop} (hcal : callable P g = true) (ha : args.toList.map (ev f) = vs) (hd : decide (d < n) = true)
    (c : CallsR P g vs.toArray w S) (k : ∀ v w', S v w' → WL P ops l n (upd f d v) w' Q) :
    WL P ops (⟨some d, .call { callee := .value (.func g), args := args, argTypes := ats }, ty, pos, aft, none⟩ :: l) n f w Q := by
  refine WL.enter (g := g) (args := vs.toArray) (S := S) rfl hd ?_ c k
  have hm : args.map (ev f) = vs.toArray := by apply Array.ext'; simp [ha]
  simp [execOp, resolve, ev, Deferred.ofValue, invoke, hm, callable_run hcal]
theorem WL.callV {g : Nat} {x : Operand} {fs cs : Array Value} {args : Array Operand} {ats : Array TypeId} {vs : List Value} {S : Value → World → Prop} (hx : ev f x = .func (.func g) fs cs) (hcal : callable P g = true) (ha : fs.toList ++ args.toList.map (ev f) ++ cs.toList = vs) (hd : decide (d < n) = true)
    (c : CallsR P g vs.toArray w S) (k : ∀ v w', S v w' → WL P ops l n (upd f d v) w' Q) :
    WL P ops (⟨some d, .call { callee := .value x, args := args, argTypes := ats }, ty, pos, aft, none⟩ :: l) n f w Q := by
  refine WL.enter (g := g) (args := vs.toArray) (S := S) rfl hd ?_ c k
  have hm : fs ++ args.map (ev f) ++ cs = vs.toArray := by apply Array.ext'; simp [← ha]
  simp [execOp, resolve, hx, Deferred.ofValue, invoke, hm, callable_run hcal]
theorem yf_bool {ops : Array Oper} {f : Fr} {j d : Nat} {b b' : Bool} (hd : (ops[j]?).bind (·.dst) = some d) (hf : f d = .bool b) (hb : b = b') : yf ops f j = some b' := by
  unfold yf; rw [hd]; simp only [hf, hb]
theorem BinR.toB {P : Program} {op : BinOp} {t : TypeId} {a b : Value} {c d : Bool} (h : BinR P op t a b (.bool c)) (e : c = d) : BinR P op t a b (.bool d) := e ▸ h
theorem WL.box {t : Nat} {x : Operand} {v : Value} (hx : ev f x = v) (hd : decide (d < n) = true) (k : ∀ b w', New w w' b v.cells t → WL P ops l n (upd f d (ptr b 0)) w' Q) :
    WL P ops (⟨some d, .box t x, ty, pos, aft, none⟩ :: l) n f w Q := by
  refine WL.val rfl hd (v := ptr w.heap.size 0) (w' := w.alloc (.cells v.cells t)) ?_ (k _ _ (New.mk' w _ _))
  simp [execOp, hx, Instr.box, newVar, newRow, go_sem, Result.andThen]
def zeroT (P : Program) (t : Nat) : Option (Array Value) := (P.info? t).bind fun i => i.zero.map Value.cells
theorem zeroT_run {P : Program} {t : Nat} {cs : Array Value} (h : zeroT P t = some cs) (w : World) : ∃ z : Value, (zeroValue t).run P w = .ok z w ∧ z.cells = cs := by
  unfold zeroT at h
  obtain ⟨i, hi, h⟩ := Option.bind_eq_some_iff.1 h
  obtain ⟨z, hz, rfl⟩ := Option.map_eq_some_iff.1 h
  exact ⟨z, by simp [zeroValue, typeInfo, hi, hz, go_sem], rfl⟩
theorem WL.alloc {t : Nat} {cs : Array Value} (hz : zeroT P t = some cs) (hd : decide (d < n) = true) (k : ∀ b w', New w w' b cs t → WL P ops l n (upd f d (ptr b 0)) w' Q) :
    WL P ops (⟨some d, .alloc t, ty, pos, aft, none⟩ :: l) n f w Q := by
  obtain ⟨z, hr, rfl⟩ := zeroT_run hz w
  refine WL.val rfl hd (v := ptr w.heap.size 0) (w' := w.alloc (.cells z.cells t)) ?_ (k _ _ (New.mk' w _ _))
  simp [execOp, Instr.alloc, hr, newVar, newRow, go_sem, Result.andThen]
theorem storeCells_all {P : Program} (g : Nat) (t : TypeId) (vs : List Value) (cur : Array Value) (w : World) (hg : Blk w g cur t) (hl : vs.length = cur.size) (h1 : ∀ v ∈ vs, v.oneCell' = true) :
    (storeCells ⟨g, 0, none⟩ vs).run P w = .ok () (w.setRow g vs.toArray) := by
  have h := run_storeCells_at P g 0 t vs 0 cur w hg (by omega) h1
  simpa [List.drop_of_length_le, hl] using h
theorem cells_of_one {v : Value} (h : v.oneCell' = true) : v.cells = #[v] := by cases v <;> simp_all [Value.oneCell', Value.cells]
theorem WL.allocStore {t : Nat} {y : Operand} {m : Nat} {z : Array Value} {v : Value} {ty' : TypeId} {pos' : String} {aft' : Array Edge} (hz : zeroT P t = some z) (hzm : z.size = m) (ht : sizeT P t = some m) (hy : ev (upd f d (ptr w.heap.size 0)) y = v)
    (hm : v.cells.size = m) (h1' : v.cells.toList.all (fun u => u.oneCell') = true) (hd : decide (d < n) = true) (k : ∀ b w', New w w' b v.cells t → WL P ops l n (upd f d (ptr b 0)) w' Q) :
    WL P ops (⟨some d, .alloc t, ty, pos, aft, none⟩ :: ⟨none, .store t (.tmp d) y, ty', pos', aft', none⟩ :: l) n f w Q := by
  have h1 : ∀ u ∈ v.cells.toList, u.oneCell' = true := List.all_eq_true.1 h1'
  obtain ⟨z, hr, rfl⟩ := zeroT_run hz w
  refine WL.val rfl hd (v := ptr w.heap.size 0) (w' := w.alloc (.cells z.cells t)) ?_ ?_
  · simp [execOp, Instr.alloc, hr, newVar, newRow, go_sem, Result.andThen]
  · have hb : Blk (w.alloc (.cells z.cells t)) w.heap.size z.cells t := alloc_blk w _ _
    have hst := storeCells_all (P := P) w.heap.size t v.cells.toList z.cells _ hb (by simp; omega) h1
    refine WL.skp rfl rfl (w' := w.alloc (.cells v.cells t)) ?_ (k _ _ (New.mk' w _ _))
    have e : (w.alloc (.cells z.cells t)).setRow w.heap.size v.cells = w.alloc (.cells v.cells t) := by
      simp only [World.setRow, World.alloc]
      congr 1
      apply Array.ext
      · simp
      · intro i h1 h2
        simp only [Array.getElem_modify]
        simp at h1 h2
        by_cases hi : i = w.heap.size
        · subst hi; simp
        · rw [if_neg (by omega), Array.getElem_push_lt (by omega), Array.getElem_push_lt (by omega)]
    simp only [Array.toArray_toList] at hst
    have hx : ev (updO f (some d) (ptr w.heap.size 0)) (.tmp d) = ptr w.heap.size 0 := by simp [ev, updO, upd]
    have hy' : ev (updO f (some d) (ptr w.heap.size 0)) y = v := hy
    simp only [execOp, hx, hy', Instr.storeAt, Instr.sureAddr, storeVar, Sem.run_bind, Sem.run_pure, Result.andThen, sizeT_run ht, hm]
    simp [hst, e]
theorem WL.storeS {t t' : Nat} {x y : Operand} {b m : Nat} {v : Value} {cs : Array Value} (hx : ev f x = ptr b 0) (hy : ev f y = v) (hb : Blk w b cs t') (hcs : cs.size = m) (ht : sizeT P t = some m) (hm : v.cells.size = m) (h1' : v.cells.toList.all (fun u => u.oneCell') = true)
    (k : ∀ w', Mod (· = b) w w' → Blk w' b v.cells t' → w'.heap.size = w.heap.size → WL P ops l n f w' Q) :
    WL P ops (⟨none, .store t x y, ty, pos, aft, none⟩ :: l) n f w Q := by
  have hst := storeCells_all (P := P) b t' v.cells.toList cs _ hb (by simp; omega) (List.all_eq_true.1 h1')
  simp only [Array.toArray_toList] at hst
  refine WL.skp rfl rfl (w' := w.setRow b v.cells) ?_ (k _ ⟨rfl, rfl, rfl, by simp [World.setRow], fun i _ hi => setRow_other w b i _ (by simpa using hi)⟩ (setRow_heap w b cs _ t' _ hb) (by simp [World.setRow]))
  simp only [execOp, hx, hy, Instr.storeAt, Instr.sureAddr, storeVar, Sem.run_bind, Sem.run_pure, Result.andThen, sizeT_run ht, hm]
  simp [hst]
theorem WL.storeB {t t' : Nat} {x y : Operand} {b o : Nat} {v : Value} {cs : Array Value} (hx : ev f x = ptr b o) (hy : ev f y = v) (hv : v.oneCell' = true) (hz : sizeT P t = some 1) (hb : Blk w b cs t') (ho : o < cs.size)
    (k : ∀ w', Mod (· = b) w w' → Blk w' b (cs.setIfInBounds o v) t' → w'.heap.size = w.heap.size → WL P ops l n f w' Q) : WL P ops (⟨none, .store t x y, ty, pos, aft, none⟩ :: l) n f w Q :=
  WL.store1 hx hy hv hz (u := cs[o]) (hb.cell (by simp [ho])) (hb.frozen o) (k _ (setCell_mod w b o v) (setCell_blk hb o v) (by simp [World.setCell]))
theorem WL.build {t : Nat} {ps : Array (Nat × Operand)} {vs : List (Nat × Value)} {v : Value} (hp : ps.toList.map (fun p => (p.1, ev f p.2)) = vs) (hr : ∀ w, (Instr.build t vs.toArray).run P w = .ok v w) (hd : decide (d < n) = true) (k : WL P ops l n (upd f d v) w Q) :
    WL P ops (⟨some d, .build t ps, ty, pos, aft, none⟩ :: l) n f w Q := by
  refine WL.val rfl hd (v := v) (w' := w) ?_ k
  have hm : ps.map (fun p => (p.1, ev f p.2)) = vs.toArray := by apply Array.ext'; simp [hp]
  simp only [execOp, hm, Sem.run_bind, hr, Result.andThen, Sem.run_pure]
theorem WL.buildSlice {t m e : Nat} {ps : Array (Nat × Operand)} {vs : List (Nat × Value)} {cs : Array Value} (hp : ps.toList.map (fun p => (p.1, ev f p.2)) = vs)
    (hr : ∀ w, (Instr.buildSlice t m vs.toArray).run P w = .ok (.slice (some ⟨w.heap.size, 0, none⟩) m m) (w.alloc (.cells cs e))) (hd : decide (d < n) = true)
    (k : ∀ b w', New w w' b cs e → WL P ops l n (upd f d (.slice (some ⟨b, 0, none⟩) m m)) w' Q) :
    WL P ops (⟨some d, .buildSlice t m ps, ty, pos, aft, none⟩ :: l) n f w Q := by
  refine WL.val rfl hd (v := .slice (some ⟨w.heap.size, 0, none⟩) m m) (w' := w.alloc (.cells cs e)) ?_ (k _ _ (New.mk' w _ _))
  have hm : ps.map (fun p => (p.1, ev f p.2)) = vs.toArray := by apply Array.ext'; simp [hp]
  simp only [execOp, hm, Sem.run_bind, hr, Result.andThen, Sem.run_pure]
theorem WL.makeFunc {fn : Fn} {fs cs : Array Operand} {vs us : List Value} (h1 : fs.toList.map (ev f) = vs) (h2 : cs.toList.map (ev f) = us) (hd : decide (d < n) = true) (k : WL P ops l n (upd f d (.func fn vs.toArray us.toArray)) w Q) :
    WL P ops (⟨some d, .makeFunc fn fs cs, ty, pos, aft, none⟩ :: l) n f w Q := by
  refine WL.val rfl hd (v := .func fn vs.toArray us.toArray) (w' := w) ?_ k
  have e1 : fs.map (ev f) = vs.toArray := by apply Array.ext'; simp [h1]
  have e2 : cs.map (ev f) = us.toArray := by apply Array.ext'; simp [h2]
  simp [execOp, Instr.makeFunc, e1, e2, go_sem]
theorem Blk.ne {w w' : World} {b c : Nat} {cs cs' : Array Value} {t t' : TypeId} (h : Blk w b cs t) (k : New w w' c cs' t') : b ≠ c := by
  have := h.lt; have := k.num; omega
theorem Mod.own {w w1 w2 w3 : World} {b : Nat} {cs : Array Value} {t : TypeId} {wb : World} (h : Ext w w1) (k : New w1 wb b cs t) (h2 : Ext w w2) (m : Mod (· = b) w2 w3) : Ext w w3 :=
  h2.then m fun i hi e => by have := h.size; have := k.num; omega
theorem WL.lenS {t e : Nat} {x : Operand} {ao : Option Addr} {m c : Nat} (ht : elemT P t = some e) (hx : ev f x = .slice ao m c) (hd : decide (d < n) = true) (k : WL P ops l n (upd f d (IN m)) w Q) :
    WL P ops (⟨some d, .call { callee := .builtin .len, args := #[x], argTypes := #[t] }, ty, pos, aft, none⟩ :: l) n f w Q := by
  refine WL.val rfl hd (v := IN m) (w' := w) ?_ k
  unfold elemT at ht
  split at ht <;> try cases ht
  rename_i hu
  simp [execOp, resolve, invoke, builtin, hx, Builtin.len_, run_underlying hu, goInt, Result.andThen]
theorem WL.lenStr {t : Nat} {x : Operand} {s : ByteArray} (ht : P.underlying t = some .string) (hx : ev f x = .string s) (hd : decide (d < n) = true) (k : WL P ops l n (upd f d (IN s.size)) w Q) :
    WL P ops (⟨some d, .call { callee := .builtin .len, args := #[x], argTypes := #[t] }, ty, pos, aft, none⟩ :: l) n f w Q := by
  refine WL.val rfl hd (v := IN s.size) (w' := w) ?_ k
  simp [execOp, resolve, invoke, builtin, hx, Builtin.len_, run_underlying ht, goInt, Result.andThen]
theorem WL.indexAddr {t e sz : Nat} {x y : Operand} {b o m c i : Nat} {kd : IntKind} (ht : elemT P t = some e) (hz : sizeT P e = some sz) (hx : ev f x = .slice (some ⟨b, o, none⟩) m c) (hy : ev f y = .int kd (i : Int)) (hi : i < m) (hd : decide (d < n) = true)
    (k : WL P ops l n (upd f d (ptr b (o + i * sz))) w Q) : WL P ops (⟨some d, .indexAddr t x y, ty, pos, aft, none⟩ :: l) n f w Q := by
  refine WL.val rfl hd (v := ptr b (o + i * sz)) (w' := w) ?_ k
  unfold elemT at ht
  split at ht <;> try cases ht
  rename_i hu
  simp [execOp, hx, hy, Instr.indexAt, asIntOf, run_underlying hu, sizeT_run hz, hi, addr_add, Result.andThen]
theorem WL.indexAddr1 {t e : Nat} {x y : Operand} {b o m c i : Nat} {kd : IntKind} (ht : elemT P t = some e) (hz : sizeT P e = some 1) (hx : ev f x = .slice (some ⟨b, o, none⟩) m c) (hy : ev f y = .int kd (i : Int)) (hi : i < m) (hd : decide (d < n) = true)
    (k : WL P ops l n (upd f d (ptr b (o + i))) w Q) : WL P ops (⟨some d, .indexAddr t x y, ty, pos, aft, none⟩ :: l) n f w Q :=
  WL.indexAddr ht hz hx hy hi hd (by rw [Nat.mul_one]; exact k)
def arrT (P : Program) (t : Nat) : Option (Nat × Nat) :=
  match P.underlying t with
  | some (.array m e) => some (m, e)
  | _ => none
theorem WL.indexArr {t e sz m : Nat} {x y : Operand} {b o i : Nat} {kd : IntKind} (ht : arrT P t = some (m, e)) (hz : sizeT P e = some sz) (hx : ev f x = ptr b o) (hy : ev f y = .int kd (i : Int)) (hi : i < m) (hd : decide (d < n) = true)
    (k : WL P ops l n (upd f d (ptr b (o + i * sz))) w Q) : WL P ops (⟨some d, .indexAddr t x y, ty, pos, aft, none⟩ :: l) n f w Q := by
  refine WL.val rfl hd (v := ptr b (o + i * sz)) (w' := w) ?_ k
  unfold arrT at ht
  split at ht <;> try cases ht
  rename_i hu
  simp [execOp, hx, hy, Instr.indexAt, asIntOf, run_underlying hu, Instr.sureAddr, sizeT_run hz, hi, addr_add, Result.andThen]
theorem WL.indexArr1 {t e m : Nat} {x y : Operand} {b o i : Nat} {kd : IntKind} (ht : arrT P t = some (m, e)) (hz : sizeT P e = some 1) (hx : ev f x = ptr b o) (hy : ev f y = .int kd (i : Int)) (hi : i < m) (hd : decide (d < n) = true)
    (k : WL P ops l n (upd f d (ptr b (o + i))) w Q) : WL P ops (⟨some d, .indexAddr t x y, ty, pos, aft, none⟩ :: l) n f w Q :=
  WL.indexArr ht hz hx hy hi hd (by rw [Nat.mul_one]; exact k)
end ops
end Go.Ux
end
section
namespace Go.Ux
open Go.ChangeShapes Go.WideShapes Go.ChangeAt Go.RowKit
variable {H : Type} {enc : TypeId × Value → H} {P : Program}
theorem trodAll_below (hl : laidOutB P = true) {W W' : World} (hb : Below W.heap.size W W') {sp : Nat → Bool} :
    ∀ {ts : List TypeId} {vs : List Value} {ds : List (DataW H)} {ps : List MemPlace}, (∀ t ∈ ts, P.readableRec t = true ∧ t < P.types.size) →
      (∀ x ∈ ps, x.block < W.heap.size) → (∀ x ∈ ps, sp x.block = true) →
      DataW.TrodAll enc P W 0 (fun _ => true) true ts vs ds ps → DataW.TrodAll enc P W' 0 sp true ts vs ds ps
  | [], vs, ds, ps, _, _, _, h => by
    cases vs <;> cases ds <;> simp [DataW.TrodAll] at h ⊢
    exact h
  | t :: ts, vs, ds, ps, ht, hlt, hsp, h => by
    obtain ⟨v, vs', d, ds', p, q, rfl, rfl, rfl, h1, h2⟩ := trodAll_cons h
    have h3 := trodAll_below hl hb (fun t' h' => ht t' (List.mem_cons_of_mem _ h')) (fun x hx => hlt x (List.mem_append_right _ hx)) (fun x hx => hsp x (List.mem_append_right _ hx)) h2
    exact ⟨p, q, WideElems.Trod_stays hl (ht t (by simp)).1 (ht t (by simp)).2 h1 (fun x hx => hb.same (hlt x (List.mem_append_left _ hx))) (fun x hx => hsp x (List.mem_append_left _ hx)), h3, rfl⟩
theorem post_law {f : Func} {s : ChangeSpec} {apart fresh handsOn again : Bool} {W W' : World} {args : Array Value} {ds gs : List (DataW H)} {before : List MemPlace} {t : TypeId}
    (hl : laidOutB P = true) (hrow : ∀ t ∈ f.params.toList, P.readableRec t = true ∧ t < P.types.size) (hrt : f.resultTypes = #[t]) (ht : P.underlying t = some .bool) (hvars : s.vars = [])
    (hs : s.fn H ds = { results := [.lit (.bool true)], args := ds })
    (hW : DataW.Whole enc P f.params.toList s.vars apart W args.toList ds gs before) (hb : Below W.heap.size W W') :
    s.post enc P f apart fresh handsOn again W args (.bool true) W' := by
  have hW' := hW
  have hlt : ∀ p ∈ before, p.block < W.heap.size := fun p hp => hW.lt p hp
  obtain ⟨pa, pv, hA, hV, rfl, hz, hn⟩ := hW
  rw [hvars] at hV
  obtain ⟨rfl, rfl⟩ := trodVars_none hV
  rw [List.append_nil] at hW' hlt hz hn
  have hs' : s.fn H (ds ++ []) = { results := [.lit (.bool true)], args := ds } := by rw [List.append_nil]; exact hs
  have hres : ∀ (b : Nat) (sp : Nat → Bool) (hd : Bool), DataW.TrodAll enc P W' b sp hd f.resultTypes.toList ((Value.bool true).resultList f.resultTypes.size) [.lit (.bool true)] [] := by
    intro b sp hd
    rw [hrt]
    exact trodAll_mk1 (shut_bool ht true)
  have hargs : ∀ sp : Nat → Bool, (∀ p ∈ pa, sp p.block = true) → DataW.TrodAll enc P W' 0 sp true f.params.toList args.toList ds pa := fun sp h => trodAll_below hl hb hrow hlt h hA
  have hold : ∀ p ∈ pa, (fun b => decide (b < W.heap.size)) p.block = true := fun p hp => by simpa using hlt p hp
  refine ⟨ds, [], pa, [], pa, [], hW', ?_, ?_, ?_, hb.frame _, fun _ => ?_⟩
  · rw [hs']; exact hres _ _ _
  · rw [hs']; exact hargs _ hold
  · rw [hvars, hs']; rfl
  · refine ⟨ok_one hrt rfl (okWide_bool_mk ht true), _, [], ([] ++ pa) ++ [], ⟨[] ++ pa, [], trodAll_append (hargs _ (fun _ _ => rfl)) (hres _ _ _), by rw [hvars]; rfl, rfl, ?_, ?_⟩, ?_⟩
    · intro b off hp
      have hp' : MemPlace.cell b off ∈ pa := by simpa using hp
      rw [hb.frozen (p := ⟨b, off, none⟩) (hlt _ hp')]
      exact hz b off hp'
    · intro ha
      simpa using hn ha
    · intro p hp _
      simpa using hp
theorem mem_params {f : Func} {p : TypeId → Bool} (h : f.params.toList.all p = true) {j : Nat} {t : TypeId} (ht : f.params[j]? = some t) : p t = true :=
  List.all_eq_true.1 h t (by have := Array.mem_of_getElem? ht; simpa using this)
end Go.Ux
end
section
namespace Go.Ux
open Go
def Sl (w : World) (v : Value) (size n : Nat) (xs : List Value) : Prop :=
  ∃ ao cap, v = .slice ao n cap ∧ n ≤ cap ∧ xs.length = n * size ∧ (n = 0 ∨ ∃ b o, ao = some ⟨b, o, none⟩ ∧ Cells w b o xs)
theorem Sl.mod {O : Nat → Prop} {w w' : World} {v : Value} {size n : Nat} {xs : List Value} (h : Sl w v size n xs) (m : Mod O w w') (hO : ∀ a l c, v = .slice (some a) l c → ¬ O a.block) : Sl w' v size n xs := by
  obtain ⟨ao, cap, rfl, hc, hl, h0⟩ := h
  refine ⟨ao, cap, rfl, hc, hl, h0.imp id ?_⟩
  rintro ⟨b, o, rfl, hcl⟩
  exact ⟨b, o, rfl, hcl.mod m (hO _ _ _ rfl)⟩
theorem Sl.ext {w w' : World} {v : Value} {size n : Nat} {xs : List Value} (h : Sl w v size n xs) (m : Ext w w') : Sl w' v size n xs := h.mod m fun _ _ _ _ x => x
section ops
variable {P : Program} {ops : Array Oper} {l : List Oper} {n : Nat} {f : Fr} {w : World} {Q : Exit → Fr → World → Prop}
variable {d : Nat} {ty : TypeId} {pos : String} {aft : Array Edge}
theorem elemT_und {t e : Nat} (ht : elemT P t = some e) : P.underlying t = some (.slice e) := by
  unfold elemT at ht
  split at ht <;> try cases ht
  assumption
theorem WL.sliceLH {t e sz : Nat} {x lo hi : Operand} {ao : Option Addr} {m c i j : Nat} {kd kd' : IntKind} (ht : elemT P t = some e) (hz : sizeT P e = some sz) (hx : ev f x = .slice ao m c) (hlo : ev f lo = .int kd (i : Int)) (hhi : ev f hi = .int kd' (j : Int)) (hij : i ≤ j) (hj : j ≤ c) (hd : decide (d < n) = true)
    (k : ∀ ao', (i < j → ao' = ao.map (·.add (i * sz))) → WL P ops l n (upd f d (.slice ao' (j - i) (c - i))) w Q) :
    WL P ops (⟨some d, .slice t x (some lo) (some hi) none, ty, pos, aft, none⟩ :: l) n f w Q := by
  have hu := elemT_und ht
  refine WL.val rfl hd (v := .slice (if c = i then ao else ao.map (·.add (i * sz))) (j - i) (c - i)) (w' := w) ?_ (k _ (fun h => if_neg (by omega)))
  simp [execOp, hx, hlo, hhi, Instr.sliceAt, Instr.slice, run_underlying hu, Instr.sliceBounds, Instr.sliceBound, asIntOf, sizeT_run hz, hij, hj, Result.andThen]
end ops
end Go.Ux
end
section
namespace Go.Ux
open Go
theorem val_next {P : Program} {s : Sem Value} {nx : Next} {w w' : World} (h : (do pure (Next.value (← s)) : Sem Next).run P w = .ok nx w') : ∃ u, nx = .value u := by
  rw [Sem.run_bind] at h
  cases hs : s.run P w with
  | ok v w1 => rw [hs] at h; simp [Result.andThen] at h; exact ⟨_, h.1.symm⟩
  | halt x w1 => rw [hs] at h; simp [Result.andThen] at h
def calm (o : Oper) : Bool := match o.op with
  | .move _ | .assign _ | .pick .. | .load .. | .binOp .. | .unOp .. | .convert .. | .slice .. | .fieldAddr .. | .field .. | .indexAddr .. | .index .. | .extract .. | .build .. => true
  | .call { callee := .builtin .len, .. } => true
  | _ => false
theorem calm_next {P : Program} {ρ : Operand → Value} {o : Oper} {nx : Next} {w w' : World} (hc : calm o = true) (h : (execOp ρ o).run P w = .ok nx w') : ∃ u, nx = .value u := by
  unfold execOp at h
  unfold calm at hc
  split at hc
  case h_16 => cases hc
  case h_15 =>
    rename_i he
    rw [he] at h
    simp only [resolve, invoke, builtin, Sem.run_bind, Sem.run_pure, Result.andThen] at h
    generalize Sem.run P (Builtin.len_ _ _ _) w = r at h
    cases r with
    | ok v w1 => simp at h; exact ⟨_, h.1.symm⟩
    | halt x w1 => simp at h
  all_goals
    rename_i he
    rw [he] at h
    simp only at h
  case h_1 => simp at h; exact ⟨_, h.1.symm⟩
  case h_2 => simp at h; exact ⟨_, h.1.symm⟩
  case h_3 c a b =>
    rw [Sem.run_bind] at h
    cases hs : (asBool (ρ c)).run P w with
    | ok v w1 => rw [hs] at h; simp [Result.andThen] at h; exact ⟨_, h.1.symm⟩
    | halt x w1 => rw [hs] at h; simp [Result.andThen] at h
  all_goals exact val_next h
section
variable {P : Program} {ops : Array Oper} {n : Nat} {f : Fr} {w : World} {Q : Exit → Fr → World → Prop} {S : World → Prop}
def Left1 (f : Fr) (d : Nat) (v : Value) (w : World) : Exit → Fr → World → Prop := fun e f' w' => e = .normal ∧ f' = upd f d v ∧ w' = w
theorem yields_of {o : Oper} {d : Nat} {v : Value} {a : Act} (hc : calm o = true) (hd : o.dst = some d) (hdn : decide (d < n) = true) (h1 : a.tmps.size = n) (h2 : a.defers = [])
    (h : ∀ w, S w → WL P ops [o] n (frOf a) w (Left1 (frOf a) d v w)) : (∃ w, S w) → YieldsIf P ops S o v a := by
  rintro ⟨w0, hw0⟩
  have hdn' : d < a.tmps.size := by rw [h1]; simpa using hdn
  have same : ∀ u, upd (frOf a) d u = upd (frOf a) d v → u = v := fun u e => by have := congrFun e d; rwa [upd_same, upd_same] at this
  cases hw : Region.wanted o (yielded ops a.tmps) with
  | false =>
    refine .inr ⟨hw, ?_⟩
    have := h w0 hw0 a h1 h2 rfl
    unfold wpList at this
    rw [if_neg (by rw [hw]; simp)] at this
    obtain ⟨_, _, _, e, _⟩ := this
    rw [hd, frOf_put a d _ hdn'] at e
    exact (same _ e).symm
  | true =>
    refine .inl ⟨hw, fun w hS => ?_⟩
    have := h w hS a h1 h2 rfl
    unfold wpList at this
    rw [if_pos hw] at this
    rcases this with this | ⟨_, _, _, hl⟩
    case inr => obtain ⟨_, _, e, _⟩ := hl; cases e
    unfold Oper.wp at this
    cases hr : (execOp a.eval o).run P w with
    | ok nx w' =>
      obtain ⟨u, rfl⟩ := calm_next hc hr
      rw [hr] at this
      obtain ⟨_, _, _, e, rfl⟩ := this
      rw [hd, frOf_put a d _ hdn'] at e
      rw [same _ e]
    | halt x w' =>
      rw [hr] at this
      cases x <;> first | exact this.elim | skip
      obtain ⟨_, _, e, _⟩ := this; cases e
def bits (N m : Nat) : Array Bool := ((List.range N).map fun i => m.testBit i).toArray
theorem bits_set (N m i : Nat) (_ : i < N) : (bits N m).setIfInBounds i true = bits N (m ||| 1 <<< i) := by
  apply Array.ext
  · simp [bits]
  · intro j h1 h2
    have hj : j < N := by simpa [bits] using h2
    rw [Array.getElem_setIfInBounds]
    · simp only [bits, List.getElem_toArray, List.getElem_map, List.getElem_range, Nat.testBit_or, Nat.one_shiftLeft, Nat.testBit_two_pow]
      by_cases e : i = j
      · subst e; simp
      · simp [e]
    · simpa [bits] using hj
theorem bits_zero (N : Nat) : bits N 0 = Array.replicate N false := by
  apply Array.ext <;> simp [bits]
def WA (P : Program) (ops : Array Oper) (S : World → Prop) (n fuel m : Nat) (f : Fr) (w : World) (Q : Exit → Fr → World → Prop) : Prop :=
  ∀ a : Act, a.tmps.size = n → a.defers = [] → frOf a = f → wpAnyH P .any ops (Post n Q) S fuel (bits ops.size m) a w
theorem WC.draw {id : Nat} {l : List Oper} (S : World → Prop) (N : Nat) (hN : l.toArray.size = N) (hm : P.follows .mixedOrders = true) (h : ∀ w1, Ext w w1 → WA P l.toArray S n N 0 f w1 Q) : WC P (.region id l.toArray true) n f w Q := by
  intro a h1 h2 h3
  refine wp_region_held (S := S) hm ?_
  rw [← bits_zero]
  have := h { w with drawn := w.drawn + 1 } (Mod.drew _ _) a h1 h2 h3
  rw [← hN] at this
  exact this
theorem WA.take {i m m' d fuel : Nat} {o : Oper} {v : Value} (hi : ops[i]? = some o) (hc : calm o = true) (hd : o.dst = some d) (hdn : decide (d < n) = true)
    (hs : (Region.noSelect ops && Region.free .any ops (bits ops.size m) i && (Region.ready .any ops (bits ops.size m)).contains i) = true) (hm : m ||| 1 <<< i = m')
    (hQ : ∀ c f w, Q (.panic c) f w → False) (hy : ∀ w, S w → WL P ops [o] n f w (Left1 f d v w)) (hS : S w)
    (k : WA P ops S n fuel m' (upd f d v) w Q) : WA P ops S n (fuel + 1) m f w Q := by
  intro a h1 h2 h3
  simp only [Bool.and_eq_true] at hs
  have hin : i < ops.size := (Array.getElem?_eq_some_iff.1 hi).1
  refine wpAnyH_take hi hs.1.1 hs.1.2 hs.2 (fun c a w h => (hQ c _ _ h.2.2).elim) (v := v) (yields_of hc hd hdn h1 h2 (by rw [h3]; exact hy) ⟨w, hS⟩) hS ?_
  rw [bits_set _ _ _ hin, hm, hd]
  exact k _ (by rw [size_put, h1]) (by rw [defers_put, h2]) (by rw [frOf_put a d v (by rw [h1]; simpa using hdn), h3])
theorem WA.off {i m m' d fuel j : Nat} {b : Bool} {y : Option Bool} {o : Oper} (hi : ops[i]? = some o) (hg : o.guard = some (j, b)) (hd : o.dst = some d) (hdn : decide (d < n) = true)
    (hs : (Region.noSelect ops && Region.free .any ops (bits ops.size m) i && (Region.ready .any ops (bits ops.size m)).contains i) = true) (hm : m ||| 1 <<< i = m')
    (hQ : ∀ c f w, Q (.panic c) f w → False) (hy : yf ops f j = y) (hb : (y == some b) = false) (hS : S w)
    (k : WA P ops S n fuel m' (upd f d undef) w Q) : WA P ops S n (fuel + 1) m f w Q := by
  intro a h1 h2 h3
  simp only [Bool.and_eq_true] at hs
  have hin : i < ops.size := (Array.getElem?_eq_some_iff.1 hi).1
  have hw : Region.wanted o (yielded ops a.tmps) = false := by
    simp only [Region.wanted, hg]
    cases y with
    | none => rw [yielded_none a j (by rw [h3]; exact hy)]; rfl
    | some b' => rw [yielded_eq a j b' (by rw [h3]; exact hy)]; simpa using hb
  refine wpAnyH_take hi hs.1.1 hs.1.2 hs.2 (fun c a w h => (hQ c _ _ h.2.2).elim) (v := undef) (.inr ⟨hw, rfl⟩) hS ?_
  rw [bits_set _ _ _ hin, hm, hd]
  exact k _ (by rw [size_put, h1]) (by rw [defers_put, h2]) (by rw [frOf_put a d _ (by rw [h1]; simpa using hdn), h3])
def Behind (P : Program) (ops : Array Oper) (S : World → Prop) (n fuel m : Nat) (Q : Exit → Fr → World → Prop) : Exit → Fr → World → Prop :=
  fun e f w => match e with
    | .normal => S w ∧ WA P ops S n fuel m f w Q
    | _ => False
theorem wpOp_of_WL {i m m' fuel : Nat} {o : Oper} (hi : ops[i]? = some o) (hm : m ||| 1 <<< i = m') (h : WL P ops [o] n f w (Behind P ops S n fuel m' Q)) {a : Act} (h1 : a.tmps.size = n) (h2 : a.defers = []) (h3 : frOf a = f) :
    wpOp P ops (Post n Q) i (fun a' w' => S w' ∧ wpAnyH P .any ops (Post n Q) S fuel ((bits ops.size m).setIfInBounds i true) a' w') a w := by
  have hin : i < ops.size := (Array.getElem?_eq_some_iff.1 hi).1
  have := h a h1 h2 h3
  unfold wpOp
  simp only [hi]
  unfold wpList at this
  have fin : ∀ a' w', wpList P ops (Post n (Behind P ops S n fuel m' Q)) [] a' w' → S w' ∧ wpAnyH P .any ops (Post n Q) S fuel ((bits ops.size m).setIfInBounds i true) a' w' := by
    rintro a' w' ⟨k1, k2, k3, k4⟩
    rw [bits_set _ _ _ hin, hm]
    exact ⟨k3, k4 a' k1 k2 rfl⟩
  split
  · rename_i hw
    rw [if_pos hw] at this
    rcases this with this | ⟨_, _, _, hl⟩
    · refine .inl ?_
      have h4 := Oper.wp_mono fin this
      unfold Oper.wp at h4 ⊢
      generalize (execOp a.eval o).run P w = r at h4 ⊢
      cases r with
      | ok nx w' =>
        cases nx <;> first | exact h4 | skip
        refine Calls.mono h4 fun e w'' he => ?_
        cases e with
        | returned u => exact he
        | panicked c => exact he.2.2.elim
        | outgrown => obtain ⟨_, _, _, _, e⟩ := he; exact e.elim
      | halt x w' =>
        cases x <;> first | exact h4 | skip
        exact h4.2.2.elim
    · exact hl.2.2.elim
  · rename_i hw
    rw [if_neg hw] at this
    exact fin _ _ this
theorem WA.one {i m m' fuel : Nat} {o : Oper} (hr : Region.ready .any ops (bits ops.size m) = [i]) (hi : ops[i]? = some o) (hm : m ||| 1 <<< i = m')
    (h : WL P ops [o] n f w (Behind P ops S n fuel m' Q)) : WA P ops S n (fuel + 1) m f w Q := by
  intro a h1 h2 h3
  refine wpAnyH_all hr (by simp) fun j hj => ?_
  obtain rfl : j = i := by simpa using hj
  exact wpOp_of_WL hi hm h h1 h2 h3
theorem WA.two {i j m mi mj fuel : Nat} {o o' : Oper} (hr : Region.ready .any ops (bits ops.size m) = [i, j]) (hi : ops[i]? = some o) (hj : ops[j]? = some o') (hmi : m ||| 1 <<< i = mi) (hmj : m ||| 1 <<< j = mj)
    (h : WL P ops [o] n f w (Behind P ops S n fuel mi Q)) (h' : WL P ops [o'] n f w (Behind P ops S n fuel mj Q)) : WA P ops S n (fuel + 1) m f w Q := by
  intro a h1 h2 h3
  refine wpAnyH_all hr (by simp) fun k hk => ?_
  rcases (by simpa using hk : k = i ∨ k = j) with rfl | rfl
  · exact wpOp_of_WL hi hmi h h1 h2 h3
  · exact wpOp_of_WL hj hmj h' h1 h2 h3
theorem WA.done {m fuel : Nat} (hr : Region.ready .any ops (bits ops.size m) = []) (h : Q .normal f w) : WA P ops S n fuel m f w Q :=
  fun _ h1 h2 h3 => wpAnyH_done hr ⟨h1, h2, by rw [h3]; exact h⟩ _
theorem WL.behind {fuel m : Nat} (hS : S w) (h : WA P ops S n fuel m f w Q) : WL P ops [] n f w (Behind P ops S n fuel m Q) := WL.nil ⟨hS, h⟩
end
end Go.Ux
end
section
namespace Go.Ux
open Go
variable {P : Program} {t : TypeId}
theorem Cells.ext {w w' : World} {b o : Nat} {vs : List Value} (h : Cells w b o vs) (m : Ext w w') : Cells w' b o vs := h.mod m fun x => x
theorem BinR.remK {k : IntKind} {a b : Int} (ha : 0 ≤ a) (hb : b ≠ 0) : BinR P .rem t (.int k a) (.int k b) (.int k (a % b)) := .of_int fun w => by
  simp [binOp, Op.intDiv, hb, Int.tmod_eq_emod_of_nonneg ha]
theorem BinR.addN {a b : Nat} (h : a + b ≤ 9223372036854775807) : BinR P .add t (IN a) (IN b) (IN (a + b)) := by
  have := BinR.addI (P := P) (t := t) (a := (a : Int)) (b := (b : Int)) (by omega)
  show BinR P .add t (.int .i64 (a : Int)) (.int .i64 (b : Int)) (.int .i64 ((a + b : Nat) : Int))
  rw [show ((a + b : Nat) : Int) = (a : Int) + (b : Int) by omega]; exact this
theorem BinR.subN {a b : Nat} (h : b ≤ a) (ha : a ≤ 9223372036854775807) : BinR P .sub t (IN a) (IN b) (IN (a - b)) := by
  have := BinR.subI (P := P) (t := t) (a := (a : Int)) (b := (b : Int)) (by omega)
  show BinR P .sub t (.int .i64 (a : Int)) (.int .i64 (b : Int)) (.int .i64 ((a - b : Nat) : Int))
  rw [show ((a - b : Nat) : Int) = (a : Int) - (b : Int) by omega]; exact this
theorem BinR.mulN {a b : Nat} (h : a * b ≤ 9223372036854775807) : BinR P .mul t (IN a) (IN b) (IN (a * b)) := by
  have e : ((a * b : Nat) : Int) = (a : Int) * (b : Int) := Int.natCast_mul a b
  have := BinR.mulI (P := P) (t := t) (a := (a : Int)) (b := (b : Int)) (by omega)
  show BinR P .mul t (.int .i64 (a : Int)) (.int .i64 (b : Int)) (.int .i64 ((a * b : Nat) : Int))
  rw [e]; exact this
theorem BinR.remN {a b : Nat} (hb : b ≠ 0) : BinR P .rem t (IN a) (IN b) (IN (a % b)) := by
  have := BinR.remI (P := P) (t := t) (a := (a : Int)) (b := (b : Int)) (by omega) (by omega)
  show BinR P .rem t (.int .i64 (a : Int)) (.int .i64 (b : Int)) (.int .i64 ((a % b : Nat) : Int))
  rw [show ((a % b : Nat) : Int) = (a : Int) % (b : Int) by omega]; exact this
end Go.Ux
end
section
namespace Go.Ux
open Go
def Own (w : World) (size : Nat) (v : Value) (n : Nat) (xs : List Value) : Prop :=
  xs.length = n * size ∧ ((v = .slice none 0 0 ∧ n = 0) ∨
    ∃ g cap, v = .slice (some ⟨g, 0, none⟩) n cap ∧ n ≤ cap ∧ Cells w g 0 xs ∧ ∀ j, j < cap * size → (w.cell? ⟨g, j, none⟩).isSome = true ∧ w.frozen? ⟨g, j, none⟩ = false)
theorem Own.nil (w : World) (size : Nat) : Own w size (.slice none 0 0) 0 [] := ⟨by simp, .inl ⟨rfl, rfl⟩⟩
theorem Own.lt {w : World} {size : Nat} {v : Value} {n : Nat} {xs : List Value} (h : Own w size v n xs) (h0 : 0 < n) (hs : 0 < size) {g : Nat} (hg : v.ownBlock = some g) : g < w.heap.size := by
  rcases h.2 with ⟨rfl, h1⟩ | ⟨g', cap, rfl, hn, hc, hf⟩
  · omega
  · simp [Value.ownBlock] at hg
    subst hg
    have := (hf 0 (Nat.mul_pos (by omega) hs)).1
    exact World.block_lt_of_cell? w _ (Option.isSome_iff_exists.1 this).choose_spec
def LocV (w : World) (v v' : Value) : Prop := v'.ownBlock = v.ownBlock ∨ ∃ g, v'.ownBlock = some g ∧ w.heap.size ≤ g
theorem LocV.refl (w : World) (v : Value) : LocV w v v := .inl rfl
theorem LocV.trans {w w' : World} {v v' v'' : Value} (h : LocV w v v') (k : LocV w' v' v'') (hs : w.heap.size ≤ w'.heap.size) : LocV w v v'' := by
  rcases k with k | ⟨g, k, hg⟩
  · rcases h with h | ⟨g, h, hg⟩
    · exact .inl (k.trans h)
    · exact .inr ⟨g, k.trans h, hg⟩
  · exact .inr ⟨g, k, Nat.le_trans hs hg⟩
theorem LocV.ne {w : World} {v v' : Value} (h : LocV w v v') {b : Nat} (hb : b < w.heap.size) (hv : v.ownBlock ≠ some b) : v'.ownBlock ≠ some b := by
  rcases h with h | ⟨g, h, hg⟩
  · rw [h]; exact hv
  · rw [h]; intro e; cases e; omega
def From (B : Nat) (v : Value) : Prop := ∀ g, v.ownBlock = some g → B ≤ g
theorem LocV.from {w : World} {v v' : Value} {B : Nat} (h : LocV w v v') (hB : B ≤ w.heap.size) (hv : From B v) : From B v' := by
  intro g hg
  rcases h with h | ⟨g', h, hg'⟩
  · exact hv g (h ▸ hg)
  · rw [h] at hg; cases hg; omega
theorem From.ne {B b : Nat} {v : Value} (h : From B v) (hb : b < B) : v.ownBlock ≠ some b := fun e => by have := h b e; omega
abbrev At (v : Value) : Nat → Prop := fun k => v.ownBlock = some k
theorem Mod.from {w w' w'' : World} {v : Value} (h : Ext w w') (k : Mod (At v) w' w'') (hv : From w.heap.size v) : Ext w w'' :=
  h.then k fun i hi e => by have := hv i e; omega
theorem Own.mod {O : Nat → Prop} {w w' : World} {size : Nat} {v : Value} {n : Nat} {xs : List Value} (h : Own w size v n xs) (m : Mod O w w') (hO : ∀ g, v.ownBlock = some g → ¬ O g) : Own w' size v n xs := by
  refine ⟨h.1, ?_⟩
  rcases h.2 with h | ⟨g, cap, rfl, hn, hc, hf⟩
  · exact .inl h
  · refine .inr ⟨g, cap, rfl, hn, hc.mod m (hO g rfl), fun j hj => ?_⟩
    obtain ⟨h1, h2⟩ := hf j hj
    obtain ⟨u, hu⟩ := Option.isSome_iff_exists.1 h1
    refine ⟨by rw [m.cell hu (hO g rfl)]; rfl, ?_⟩
    rw [World.frozen?_of_block (w := w) (a := ⟨g, j, none⟩) (m.block g (World.block_lt_of_cell? w _ hu) (hO g rfl))]
    exact h2
theorem Own.ext {w w' : World} {size : Nat} {v : Value} {n : Nat} {xs : List Value} (h : Own w size v n xs) (m : Ext w w') : Own w' size v n xs := h.mod m fun _ _ x => x
theorem Own.sl {w : World} {size : Nat} {v : Value} {n : Nat} {xs : List Value} (h : Own w size v n xs) : Sl w v size n xs := by
  rcases h.2 with ⟨rfl, rfl⟩ | ⟨g, cap, rfl, hn, hc, _⟩
  · exact ⟨none, 0, rfl, Nat.le_refl _, h.1, .inl rfl⟩
  · exact ⟨_, cap, rfl, hn, h.1, .inr ⟨g, 0, rfl, hc⟩⟩
theorem setCells_mod (b : Nat) : ∀ (vs : List Value) (o : Nat) (w : World), Mod (· = b) w (w.setCells b o vs)
  | [], _, w => Mod.refl _ w
  | v :: r, o, w => (setCell_mod w b o v).trans (setCells_mod b r (o + 1) _)
def appT (P : Program) (t : Nat) : Option (Nat × Nat × Nat × Array Value) :=
  match P.underlying t with
  | some (.slice e) => match P.info? e with
    | some i => match i.zero with
      | some z => some (e, i.size, i.bytes, z.cells)
      | none => none
    | none => none
  | _ => none
theorem append_own {P : Program} {t tx ty e size bytes : Nat} {zs : Array Value} (ha : appT P t = some (e, size, bytes, zs)) (hzs : zs.size = size) {w : World} {v x : Value} {n m : Nat} {xs news : List Value}
    (ho : Own w size v n xs) (hsrc : Src P size tx x m news w) (h63 : n + m ≤ 9223372036854775807) (hb : (n + m) * bytes ≤ 140737488355328) :
    ∃ v' w', (Builtin.append_ #[t, tx] ty #[v, x]).run P w = .ok v' w' ∧ Own w' size v' (n + m) (xs ++ news) ∧ Mod (At v) w w' ∧ LocV w v v' := by
  unfold appT at ha
  split at ha <;> try cases ha
  rename_i e' ht
  split at ha <;> try cases ha
  rename_i i hi
  split at ha <;> try cases ha
  rename_i z hz
  have hlen : (xs ++ news).length = (n + m) * i.size := by rw [List.length_append, ho.1, hsrc.newsLen, Nat.add_mul]
  have grown : ∀ (old : Nat) (base : Option Addr), (v = .slice base n old) → old < n + m → (Builtin.firstCells i.size n (.slice base n old)).run P w.drew = .ok xs.toArray w.drew →
      ∃ v' w', (Builtin.append_ #[t, tx] ty #[v, x]).run P w = .ok v' w' ∧ Own w' i.size v' (n + m) (xs ++ news) ∧ Mod (At v) w w' ∧ LocV w v v' := by
    intro old base hv hlt hold
    subst hv
    have hr := run_append_grow_src (P := P) w t tx ty e i z ht hi hz base n old xs hold x m news hsrc hlt (by omega) (growslice_fits hlt hb)
    have hge := grownCap_ge w (n + m) old e
    refine ⟨_, _, hr, ⟨hlen, .inr ⟨w.heap.size, _, rfl, hge, ?_, ?_⟩⟩, ?_, .inr ⟨w.heap.size, rfl, Nat.le_refl _⟩⟩
    · intro j u hj
      rw [Nat.zero_add]
      have hB : Blk (w.drew.alloc (.cells ((xs ++ news).toArray ++ Builtin.zeroCells z.cells (grownCap w (n + m) old e - (n + m))) e)) w.heap.size ((xs ++ news).toArray ++ Builtin.zeroCells z.cells (grownCap w (n + m) old e - (n + m))) e := alloc_blk w.drew _ e
      refine hB.cell ?_
      have hj' : j < (xs ++ news).length := (List.getElem?_eq_some_iff.1 hj).1
      rw [Array.getElem?_append_left (by simpa using hj')]
      simpa using hj
    · intro j hj
      have hB : Blk (w.drew.alloc (.cells ((xs ++ news).toArray ++ Builtin.zeroCells z.cells (grownCap w (n + m) old e - (n + m))) e)) w.heap.size ((xs ++ news).toArray ++ Builtin.zeroCells z.cells (grownCap w (n + m) old e - (n + m))) e := alloc_blk w.drew _ e
      have hsz : ((xs ++ news).toArray ++ Builtin.zeroCells z.cells (grownCap w (n + m) old e - (n + m))).size = grownCap w (n + m) old e * i.size := by
        rw [Array.size_append, size_zeroCells, hzs]
        simp only [List.size_toArray, hlen, ← Nat.add_mul]
        congr 1; omega
      refine ⟨?_, hB.frozen j⟩
      rw [hB.cell (Array.getElem?_eq_getElem (by rw [hsz]; exact hj))]
      rfl
    · exact (Mod.drew _ w).trans (Mod.ext (alloc_ext w.drew _))
  rcases ho.2 with ⟨rfl, rfl⟩ | ⟨g, cap, rfl, hn, hc, hf⟩
  · have hx : xs = [] := List.eq_nil_of_length_eq_zero (by simpa using ho.1)
    subst hx
    by_cases hm : m = 0
    · subst hm
      have hnn : news = [] := List.eq_nil_of_length_eq_zero (by simpa using hsrc.newsLen)
      subst hnn
      refine ⟨.slice none 0 0, w, ?_, Own.nil _ _, Mod.refl _ _, LocV.refl _ _⟩
      exact run_append_nothing (P := P) w t tx ty e i ht hi none 0 0 (Nat.le_refl _) x hsrc
    · exact grown 0 none rfl (by omega) (run_firstCells_none w.drew i.size 0 0 0)
  · have holds : ∀ j u, xs[j]? = some u → w.cell? ((⟨g, 0, none⟩ : Addr).add j) = some u := fun j u hj => by
      rw [addr_add]; exact hc j u hj
    by_cases hroom : n + m ≤ cap
    · have hfit : ∀ j, j < news.length → 0 + n * i.size + j < cap * i.size := fun j hj => by
        rw [hsrc.newsLen] at hj
        have := Nat.mul_le_mul_right i.size hroom
        rw [Nat.add_mul] at this; omega
      have hr := run_append_room_src (P := P) w t tx ty e i ht hi g 0 n cap x m news hsrc hroom (fun j hj => (hf _ (hfit j hj)).1) (fun j hj => (hf _ (hfit j hj)).2)
      refine ⟨_, _, hr, ⟨hlen, .inr ⟨g, cap, rfl, hroom, ?_, ?_⟩⟩, (setCells_mod g news _ w).imp fun k _ h => ?_, .inl rfl⟩
      · intro j u hj
        rw [show (0 : Nat) + j = j from Nat.zero_add j]
        by_cases h : j < xs.length
        · rw [List.getElem?_append_left h] at hj
          rw [World.cell?_setCells_out g news _ w _ (fun _ _ => .inl (by rw [ho.1] at h; show j < 0 + n * i.size; omega))]
          have := hc j u hj
          rwa [Nat.zero_add] at this
        · rw [List.getElem?_append_right (by omega)] at hj
          obtain ⟨hlt, rfl⟩ := List.getElem?_eq_some_iff.1 hj
          have := World.cell?_setCells_in g news (0 + n * i.size) w (fun j hj => (hf _ (hfit j hj)).1) (j - xs.length) hlt
          rwa [show 0 + n * i.size + (j - xs.length) = j by rw [← ho.1]; omega] at this
      · intro j hj
        obtain ⟨h1, h2⟩ := hf j hj
        exact ⟨World.isSome_setCells g news _ w _ h1, by rw [World.frozen?_setCells]; exact h2⟩
      · subst h; rfl
    · exact grown cap (some ⟨g, 0, none⟩) rfl (by omega) (run_firstCells_some w.drew i.size n ⟨g, 0, none⟩ n cap xs ho.1 (by simpa using holds))
section ops
variable {P : Program} {ops : Array Oper} {l : List Oper} {n : Nat} {f : Fr} {w : World} {Q : Exit → Fr → World → Prop}
variable {d : Nat} {ty : TypeId} {pos : String} {aft : Array Edge}
theorem WL.append {t tx e size bytes : Nat} {zs : Array Value} {a x : Operand} {v vx : Value} {k m : Nat} {xs news : List Value} (ha : appT P t = some (e, size, bytes, zs)) (hzs : zs.size = size) (hv : ev f a = v) (hx : ev f x = vx)
    (ho : Own w size v k xs) (hsrc : Src P size tx vx m news w) (h63 : k + m ≤ 9223372036854775807) (hb : (k + m) * bytes ≤ 140737488355328) (hd : decide (d < n) = true)
    (kk : ∀ v' w', Own w' size v' (k + m) (xs ++ news) → Mod (At v) w w' → LocV w v v' → WL P ops l n (upd f d v') w' Q) :
    WL P ops (⟨some d, .call { callee := .builtin .append, args := #[a, x], argTypes := #[t, tx] }, ty, pos, aft, none⟩ :: l) n f w Q := by
  obtain ⟨v', w', hr, h1, h2, h3⟩ := append_own (ty := ty) ha hzs ho hsrc h63 hb
  refine WL.val rfl hd (v := v') (w' := w') ?_ (kk v' w' h1 h2 h3)
  simp only [execOp, resolve, invoke, builtin, Sem.run_bind, Sem.run_pure, Result.andThen_ok, List.map_toArray, List.map_cons, List.map_nil, hv, hx, hr]
end ops
theorem Sl.src {P : Program} {w : World} {size : Nat} {v : Value} {n : Nat} {xs : List Value} {tx e' : TypeId} (h : Sl w v size n xs) (hk : P.underlying tx = some (.slice e')) (h1 : ∀ u ∈ xs, u.oneCell' = true) : Src P size tx v n xs w := by
  obtain ⟨ao, cap, rfl, hn, hl, h0⟩ := h
  cases ao with
  | none =>
    have hn0 : n = 0 := by
      rcases h0 with h0 | ⟨b, o, h, _⟩
      · exact h0
      · cases h
    subst hn0
    have : xs = [] := List.eq_nil_of_length_eq_zero (by simpa using hl)
    subst this
    exact Src.ofNil w hk cap
  | some a =>
    refine Src.ofSlice w hk a n cap xs hl ?_ h1
    rcases h0 with rfl | ⟨b, o, h, hc⟩
    · have : xs = [] := List.eq_nil_of_length_eq_zero (by simpa using hl)
      subst this
      intro j u hj; simp at hj
    · cases h
      intro j u hj
      rw [addr_add]; exact hc j u hj
end Go.Ux
end
section
namespace Go.Ux
open Go
def bs (l : List UInt8) : List Value := l.map fun b => Value.int .u8 (b.toNat : Int)
def St (l : List UInt8) : Value := .string ⟨l.toArray⟩
section
variable {P : Program} {t : TypeId}
theorem bytesEq (a b : List UInt8) : ((⟨a.toArray⟩ : ByteArray) == ⟨b.toArray⟩) = (a == b) := by
  show (a.toArray == b.toArray) = (a == b)
  simp
theorem BinR.eqlS {a b : List UInt8} : BinR P .eql t (St a) (St b) (.bool (a == b)) := fun x y w => by
  simp [eqGuard, binOp, St, Op.stringOp, ByteArray.toList_eq]
theorem BinR.neqS {a b : List UInt8} : BinR P .neq t (St a) (St b) (.bool (a != b)) := fun x y w => by
  simp [eqGuard, binOp, St, Op.stringOp, bne, ByteArray.toList_eq]
end
section ops
variable {P : Program} {ops : Array Oper} {l : List Oper} {n : Nat} {f : Fr} {w : World} {Q : Exit → Fr → World → Prop}
variable {d : Nat} {ty : TypeId} {pos : String} {aft : Array Edge}
theorem WL.lenSt {t : Nat} {x : Operand} {bl : List UInt8} (ht : P.underlying t = some .string) (hx : ev f x = St bl) (hd : decide (d < n) = true) (k : WL P ops l n (upd f d (IN bl.length)) w Q) :
    WL P ops (⟨some d, .call { callee := .builtin .len, args := #[x], argTypes := #[t] }, ty, pos, aft, none⟩ :: l) n f w Q :=
  WL.lenStr ht hx hd (by simpa [ByteArray.size] using k)
theorem WL.nilCheck {x : Operand} {a : Addr} (hx : ev f x = .pointer (some a)) (hd : decide (d < n) = true) (k : WL P ops l n (upd f d (.pointer (some a))) w Q) :
    WL P ops (⟨some d, .nilCheck x, ty, pos, aft, none⟩ :: l) n f w Q :=
  WL.val rfl hd (v := .pointer (some a)) (w' := w) (by simp [execOp, hx]) k
end ops
end Go.Ux
end
section
namespace Go.Ux
open Go
def cnt (l : List (List UInt8 × Nat)) (k : List UInt8) : Nat := match l with
  | [] => 0
  | (a, c) :: r => if a == k then c else cnt r k
def cntSet (l : List (List UInt8 × Nat)) (k : List UInt8) (v : Nat) : List (List UInt8 × Nat) := match l with
  | [] => [(k, v)]
  | (a, c) :: r => if a == k then (a, v) :: r else (a, c) :: cntSet r k v
theorem cnt_set (l : List (List UInt8 × Nat)) (k k' : List UInt8) (v : Nat) : cnt (cntSet l k v) k' = if k == k' then v else cnt l k' := by
  induction l with
  | nil => simp [cntSet, cnt]
  | cons p r ih =>
    obtain ⟨a, c⟩ := p
    simp only [cntSet]
    by_cases h : a = k
    · subst h; simp only [beq_self_eq_true, if_true, cnt]
      by_cases h' : a = k' <;> simp [h']
    · rw [if_neg (by simpa using h)]
      simp only [cnt, ih]
      by_cases h' : a = k'
      · subst h'
        have : ¬ k = a := fun e => h e.symm
        simp [this]
      · simp [h']
def MapS (w : World) (r : Nat) (l : List (List UInt8 × Nat)) : Prop :=
  ∃ es clock, w.heap[r]? = some (.map es clock) ∧ es.toList.map (fun e => (e.key, e.val)) = l.map fun p => (St p.1, IN p.2)
theorem MapS.lt {w : World} {r : Nat} {l : List (List UInt8 × Nat)} (h : MapS w r l) : r < w.heap.size := by
  obtain ⟨_, _, h, _⟩ := h; exact (Array.getElem?_eq_some_iff.1 h).1
theorem MapS.mod {O : Nat → Prop} {w w' : World} {r : Nat} {l : List (List UInt8 × Nat)} (h : MapS w r l) (m : Mod O w w') (hO : ¬ O r) : MapS w' r l := by
  have hlt := h.lt
  obtain ⟨es, clock, h1, h2⟩ := h
  exact ⟨es, clock, (m.block r hlt hO).trans h1, h2⟩
theorem MapS.ext {w w' : World} {r : Nat} {l : List (List UInt8 × Nat)} (h : MapS w r l) (m : Ext w w') : MapS w' r l := h.mod m fun x => x
theorem findNow_cnt (k : List UInt8) : ∀ (es : List MapEntry) (l : List (List UInt8 × Nat)) (i : Nat), es.map (fun e => (e.key, e.val)) = l.map (fun p => (St p.1, IN p.2)) →
    (Instr.findNow .string (St k) es i = some none ∧ cnt l k = 0 ∧ cntSet l k = fun v => l ++ [(k, v)]) ∨
    ∃ j, j < es.length ∧ Instr.findNow .string (St k) es i = some (some (i + j, IN (cnt l k))) ∧ (∃ e, es[j]? = some e ∧ e.key = St k) ∧
      ∀ v g, (∀ e, (g e).key = St k ∧ (g e).val = IN v) → (es.modify j g).map (fun e => (e.key, e.val)) = (cntSet l k v).map (fun p => (St p.1, IN p.2))
  | [], [], _, _ => .inl ⟨rfl, rfl, rfl⟩
  | [], _ :: _, _, h => by cases h
  | _ :: _, [], _, h => by cases h
  | e :: es, (a, c) :: l, i, h => by
    simp only [List.map_cons, List.cons.injEq, Prod.mk.injEq] at h
    obtain ⟨⟨hk, hv⟩, hr⟩ := h
    have hs : Instr.sameNow .string (St k) e.key = some (k == a) := by
      rw [hk]; simp only [Instr.sameNow, St]; rw [bytesEq]
    by_cases hka : k = a
    · subst hka
      refine .inr ⟨0, by simp, ?_, ⟨e, rfl, hk⟩, ?_⟩
      · simp only [Instr.findNow, hs, beq_self_eq_true, hv, cnt, if_true, Nat.add_zero]
      · intro v g hg
        simp only [List.modify_cons, if_true, List.map_cons, hg e, cntSet, beq_self_eq_true, hr]
    · have hne : (a == k) = false := by rw [beq_eq_false_iff_ne]; exact fun e => hka e.symm
      have hne' : (k == a) = false := by rw [beq_eq_false_iff_ne]; exact hka
      have hf : Instr.findNow .string (St k) (e :: es) i = Instr.findNow .string (St k) es (i + 1) := by simp only [Instr.findNow, hs, hne']
      rcases findNow_cnt k es l (i + 1) hr with ⟨h1, h2, h3⟩ | ⟨j, hj, h1, ⟨e', he', hek⟩, h3⟩
      · refine .inl ⟨hf.trans h1, by simp [cnt, hne, h2], ?_⟩
        funext v
        simp only [cntSet, hne]
        rw [h3]; rfl
      · refine .inr ⟨j + 1, by simpa using hj, ?_, ⟨e', by simpa using he', hek⟩, ?_⟩
        · rw [hf, h1]; simp only [cnt, hne]; simp; omega
        · intro v g hg
          have := h3 v g hg
          simp only [List.modify_succ_cons, List.map_cons, this, cntSet, hne]
          simp [hk, hv]
section ops
variable {P : Program} {ops : Array Oper} {l : List Oper} {n : Nat} {f : Fr} {w : World} {Q : Exit → Fr → World → Prop}
variable {d : Nat} {ty : TypeId} {pos : String} {aft : Array Edge}
theorem isKey_St (k : List UInt8) : MapKept.IsKey .string (St k) := by simp [MapKept.IsKey, St]
theorem WL.lookupS {t kt et r : Nat} {x y : Operand} {ls : List (List UInt8 × Nat)} {k : List UInt8} (ht : P.underlying t = some (.map kt et)) (hk : P.underlying kt = some .string) (hz : ∀ w : World, (zeroValue et).run P w = .ok (IN 0) w)
    (hx : ev f x = .map (some r)) (hy : ev f y = St k) (hm : MapS w r ls) (hd : decide (d < n) = true) (kk : WL P ops l n (upd f d (IN (cnt ls k))) w Q) :
    WL P ops (⟨some d, .lookup t x y false, ty, pos, aft, none⟩ :: l) n f w Q := by
  obtain ⟨es, clock, hb, he⟩ := hm
  refine WL.val rfl hd (v := IN (cnt ls k)) (w' := w) ?_ kk
  have hc := MapKept.run_checkKey (P := P) (w := w) hk (isKey_St k) es.isEmpty 9999
  have hrun : (Instr.lookup t (.map (some r)) (St k) false).run P w = .ok (IN (cnt ls k)) w := by
    rcases findNow_cnt k es.toList ls 0 he with ⟨h1, h2, _⟩ | ⟨j, _, h1, _, _⟩
    · rw [h2]
      simp [Instr.lookup, run_underlying ht, MapKept.run_getObj_map hb, hc, MapKept.run_findKey hk h1, hz, Result.andThen]
    · simp [Instr.lookup, run_underlying ht, MapKept.run_getObj_map hb, hc, MapKept.run_findKey hk h1, Result.andThen]
  simp only [execOp, hx, hy]
  rw [Sem.run_bind, hrun]; simp [Result.andThen]
theorem same_St (k : List UInt8) : Instr.sameBits 10000 (St k) (St k) = true := by
  show (Instr.sameBits (9999 + 1) (Value.string ⟨k.toArray⟩) (Value.string ⟨k.toArray⟩)) = true
  unfold Instr.sameBits
  rw [bytesEq]; exact beq_self_eq_true _
theorem setObj_mod {w : World} {r : Nat} {o o' : Obj} (hb : w.heap[r]? = some o) : Mod (· = r) w { w with heap := w.heap.setIfInBounds r o' } :=
  ⟨rfl, rfl, rfl, by simp, fun k _ hk => (MapKept.heap_set hb).2 k hk⟩
theorem WL.mapSet {t kt et r v : Nat} {x y z : Operand} {ls : List (List UInt8 × Nat)} {k : List UInt8} (ht : P.underlying t = some (.map kt et)) (hk : P.underlying kt = some .string)
    (hx : ev f x = .map (some r)) (hy : ev f y = St k) (hz : ev f z = IN v) (hm : MapS w r ls) (kk : ∀ w', MapS w' r (cntSet ls k v) → Mod (· = r) w w' → WL P ops l n f w' Q) :
    WL P ops (⟨none, .mapUpdate t x y z, ty, pos, aft, none⟩ :: l) n f w Q := by
  obtain ⟨es, clock, hb, he⟩ := hm
  have hc := MapKept.run_checkKey (P := P) (w := w) hk (isKey_St k) false 9999
  rcases findNow_cnt k es.toList ls 0 he with ⟨h1, _, h3⟩ | ⟨j, hj, h1, ⟨e, hej, hek⟩, h3⟩
  · refine WL.skp (w' := { w with heap := w.heap.setIfInBounds r (.map (es.push { key := St k, val := IN v, born := clock }) (clock + 1)) }) rfl rfl ?_
      (kk _ ⟨_, _, (MapKept.heap_set hb).1, by rw [h3]; simp [he]⟩ (setObj_mod hb))
    have : (Instr.mapUpdate t (.map (some r)) (St k) (IN v)).run P w = .ok () { w with heap := w.heap.setIfInBounds r (.map (es.push { key := St k, val := IN v, born := clock }) (clock + 1)) } := by
      simp [Instr.mapUpdate, run_underlying ht, MapKept.run_getObj_map hb, hc, MapKept.run_findKey hk h1, MapKept.run_setObj_map _ hb, Result.andThen]
    simp only [execOp, hx, hy, hz]
    rw [Sem.run_bind, this]; simp [Result.andThen]
  · have hlt : j < es.size := by simpa using hj
    rw [Nat.zero_add] at h1
    have hkey : ((es[j]?).map (·.key)).getD (St k) = St k := by
      have : es[j]? = some e := by simpa using hej
      rw [this]; exact hek
    refine WL.skp (w' := { w with heap := w.heap.setIfInBounds r (.map (es.modify j fun e => { e with key := St k, val := IN v }) clock) }) rfl rfl ?_
      (kk _ ⟨_, _, (MapKept.heap_set hb).1, by rw [Array.toList_modify]; exact h3 v _ (fun _ => ⟨rfl, rfl⟩)⟩ (setObj_mod hb))
    have : (Instr.mapUpdate t (.map (some r)) (St k) (IN v)).run P w = .ok () { w with heap := w.heap.setIfInBounds r (.map (es.modify j fun e => { e with key := St k, val := IN v }) clock) } := by
      simp [Instr.mapUpdate, run_underlying ht, MapKept.run_getObj_map hb, hc, MapKept.run_findKey hk h1, hkey, Instr.keyThatStays, same_St, MapKept.run_setObj_map _ hb, Result.andThen]
    simp only [execOp, hx, hy, hz]
    rw [Sem.run_bind, this]; simp [Result.andThen]
theorem WL.makeMap {t : Nat} (hd : decide (d < n) = true) (kk : ∀ r w', MapS w' r [] → Ext w w' → r = w.heap.size → WL P ops l n (upd f d (.map (some r))) w' Q) :
    WL P ops (⟨some d, .makeMap t none, ty, pos, aft, none⟩ :: l) n f w Q := by
  refine WL.val rfl hd (v := .map (some w.heap.size)) (w' := w.alloc (.map #[] 0)) ?_ (kk _ _ ⟨#[], 0, heap_alloc_new w _, rfl⟩ (alloc_ext w _) rfl)
  simp only [execOp, Option.map_none]
  rw [Sem.run_bind, run_makeMap_plain]; simp [Result.andThen]
end ops
end Go.Ux
end
section
namespace Go.Ux
open Go
theorem Sl.ext' {w w' : World} {v : Value} {size n : Nat} {xs : List Value} (h : Sl w v size n xs) (m : Ext w w') : Sl w' v size n xs := h.ext m
theorem Sl.mod' {O : Nat → Prop} {w w' : World} {v : Value} {size n : Nat} {xs : List Value} (h : Sl w v size n xs) (m : Mod O w w') (hO : ∀ b, v.ownBlock = some b → ¬ O b) : Sl w' v size n xs :=
  h.mod m fun a l c e => hO a.block (by rw [e]; rfl)
theorem Sl.modp {O : Nat → Prop} {w w' : World} {v : Value} {size n : Nat} {xs : List Value} (h : Sl w v size n xs) (m : Mod O w w') (hO : 0 < n → ∀ b, v.ownBlock = some b → ¬ O b) : Sl w' v size n xs := by
  rcases Nat.eq_zero_or_pos n with h0 | h0
  · obtain ⟨ao, cap, rfl, hc, hl, _⟩ := h
    exact ⟨ao, cap, rfl, hc, hl, .inl h0⟩
  · exact h.mod' m (hO h0)
theorem Sl.nil (w : World) (size : Nat) (c : Nat) : Sl w (.slice none 0 c) size 0 [] := ⟨none, c, rfl, Nat.zero_le _, by simp, .inl rfl⟩
theorem Sl.one {w : World} {v : Value} {size n : Nat} {xs : List Value} (h : Sl w v size n xs) : v.oneCell' = true := by obtain ⟨_, _, rfl, _⟩ := h; rfl
theorem Sl.at {w : World} {v : Value} {size n : Nat} {xs : List Value} (h : Sl w v size n xs) (h0 : 0 < n) : ∃ b o c, v = .slice (some ⟨b, o, none⟩) n c ∧ Cells w b o xs := by
  obtain ⟨ao, cap, rfl, hc, hl, h1⟩ := h
  rcases h1 with h1 | ⟨b, o, rfl, hcl⟩
  · omega
  · exact ⟨b, o, cap, rfl, hcl⟩
theorem cells2 {w : World} {b o : Nat} {xs : List Value} {i : Nat} {u v : Value} (h : Cells w b o xs) (h1 : xs[i * 2]? = some u) (h2 : xs[i * 2 + 1]? = some v) : Cells w b (o + i * 2) [u, v] := by
  intro j x hj
  match j, hj with
  | 0, hj => cases hj; rw [Nat.add_zero]; exact h _ _ h1
  | 1, hj => cases hj; have := h _ _ h2; rwa [← Nat.add_assoc] at this
theorem Sl.size_le {w : World} {v : Value} {size n : Nat} {xs : List Value} (h : Sl w v size n xs) : xs.length = n * size := by
  obtain ⟨_, _, _, _, h, _⟩ := h; exact h
theorem Sl.lt {w : World} {v : Value} {size n : Nat} {xs : List Value} (h : Sl w v size n xs) (h0 : 0 < n) (hs : 0 < size) {g : Nat} (hg : v.ownBlock = some g) : g < w.heap.size := by
  have hl := Sl.size_le h
  obtain ⟨b, o, c, rfl, hc⟩ := h.at h0
  simp only [Value.ownBlock, Option.some.injEq] at hg
  subst hg
  have : 0 < xs.length := by rw [hl]; exact Nat.mul_pos h0 hs
  exact World.block_lt_of_cell? w _ (hc 0 xs[0] (List.getElem?_eq_getElem this))
section ops
variable {P : Program} {ops : Array Oper} {l : List Oper} {n : Nat} {f : Fr} {w : World} {Q : Exit → Fr → World → Prop}
variable {d : Nat} {ty : TypeId} {pos : String} {aft : Array Edge}
theorem WL.lenSl {t e sz m : Nat} {x : Operand} {v : Value} {xs : List Value} (ht : elemT P t = some e) (hx : ev f x = v) (h : Sl w v sz m xs) (hd : decide (d < n) = true) (k : WL P ops l n (upd f d (IN m)) w Q) :
    WL P ops (⟨some d, .call { callee := .builtin .len, args := #[x], argTypes := #[t] }, ty, pos, aft, none⟩ :: l) n f w Q := by
  obtain ⟨ao, cap, rfl, _, _, _⟩ := h
  exact WL.lenS ht hx hd k
theorem WL.indexSl {t e sz m i : Nat} {x y : Operand} {v : Value} {xs : List Value} {kd : IntKind} (ht : elemT P t = some e) (hz : sizeT P e = some sz) (hx : ev f x = v) (hy : ev f y = .int kd (i : Int)) (hi : i < m) (h : Sl w v sz m xs) (hd : decide (d < n) = true)
    (k : ∀ b o, v.ownBlock = some b → Cells w b o xs → WL P ops l n (upd f d (ptr b (o + i * sz))) w Q) : WL P ops (⟨some d, .indexAddr t x y, ty, pos, aft, none⟩ :: l) n f w Q := by
  obtain ⟨ao, cap, rfl, _, _, h0⟩ := h
  rcases h0 with h0 | ⟨b, o, rfl, hc⟩
  · omega
  · exact WL.indexAddr ht hz hx hy hi hd (k b o rfl hc)
end ops
end Go.Ux
end
section
namespace Go.Ux
open Go
theorem ones2 {a b : Value} (ha : a.oneCell' = true) (hb : b.oneCell' = true) : (Value.agg #[a, b]).cells.toList.all (fun u => u.oneCell') = true := by simp [Value.cells, ha, hb]
theorem ones3 {a b c : Value} (ha : a.oneCell' = true) (hb : b.oneCell' = true) (hc : c.oneCell' = true) : (Value.agg #[a, b, c]).cells.toList.all (fun u => u.oneCell') = true := by simp [Value.cells, ha, hb, hc]
theorem Sl.slc {w : World} {v : Value} {size n : Nat} {xs : List Value} (h : Sl w v size n xs) : ∃ a l c, v = .slice a l c := by obtain ⟨_, _, rfl, _⟩ := h; exact ⟨_, _, _, rfl⟩
end Go.Ux
end
section
namespace Go.Ux.Image
open Go.Ux
structure Img where
  entry : Int
  syms : List (List UInt8 × Int)
  words : List (BitVec 32)
deriving DecidableEq
def symOk (nw : Nat) (ns : List (List UInt8)) (last : Int) (s : List UInt8 × Int) : Bool :=
  decide (1 ≤ s.1.length) && decide (s.1.length ≤ 64) && !ns.contains s.1 && decide (last < s.2) && (s.2 % 4 == 0) && decide (s.2 < 4 * (nw : Int))
def symsOk (nw : Nat) : List (List UInt8) → Int → List (List UInt8 × Int) → Bool
  | _, _, [] => true
  | ns, last, s :: r => symOk nw ns last s && symsOk nw (s.1 :: ns) s.2 r
def headAt : List (List UInt8 × Int) → Int
  | [] => 0
  | s :: _ => s.2
def right2 (I : Img) : Bool := decide (0 ≤ I.entry) && decide (I.entry ≤ 524288) && (I.entry % 8 == 0)
def right3 (I : Img) : Bool := decide (1 ≤ I.words.length) && decide (I.words.length ≤ 262144)
def right4 (I : Img) : Bool := decide (1 ≤ I.syms.length) && decide (I.syms.length ≤ 65) && (headAt I.syms == 0)
def right5 (I : Img) : Bool := symsOk I.words.length [] (-1) I.syms
def rightB (I : Img) : Bool := right2 I && right3 I && right4 I && right5 I
def symCells (l : List (List UInt8 × Int)) : List Value := l.flatMap fun s => [St s.1, .int .i64 s.2]
def wordCells (l : List (BitVec 32)) : List Value := l.map U32
theorem symCells_get (l : List (List UInt8 × Int)) (i : Nat) (h : i < l.length) : (symCells l)[i * 2]? = some (St l[i].1) ∧ (symCells l)[i * 2 + 1]? = some (.int .i64 l[i].2) := by
  induction l generalizing i with
  | nil => simp at h
  | cons a r ih =>
    cases i with
    | zero => exact ⟨rfl, rfl⟩
    | succ i =>
      have := ih i (by simpa using h)
      simp only [List.getElem_cons_succ]
      rw [show (i + 1) * 2 = i * 2 + 2 by omega, show i * 2 + 2 + 1 = (i * 2 + 1) + 2 by omega]
      exact this
structure Rep (w : World) (sv wv : Value) (I : Img) : Prop where
  s : Sl w sv 2 I.syms.length (symCells I.syms)
  w : Sl w wv 1 I.words.length (wordCells I.words)
  ls : I.syms.length ≤ 1000000000
  lw : I.words.length ≤ 1000000000
theorem Rep.ext {w w' : World} {sv wv : Value} {I : Img} (h : Rep w sv wv I) (m : Ext w w') : Rep w' sv wv I := ⟨h.s.ext m, h.w.ext m, h.ls, h.lw⟩
theorem Rep.mod {O : Nat → Prop} {w w' : World} {sv wv : Value} {I : Img} (h : Rep w sv wv I) (m : Mod O w w') (hs : 0 < I.syms.length → ∀ b, sv.ownBlock = some b → ¬ O b) (hw : 0 < I.words.length → ∀ b, wv.ownBlock = some b → ¬ O b) : Rep w' sv wv I := ⟨h.s.modp m hs, h.w.modp m hw, h.ls, h.lw⟩
end Go.Ux.Image
end
section
namespace Go.Ux
open Go Go.ChangeShapes Go.WideShapes Go.RowKit Go.Deep Go.Joins Go.Ux.Image
variable {H : Type} {enc : TypeId × Value → H} {P : Program} {w : World} {base : Nat} {sp : Nat → Bool} {held : Bool}
end Go.Ux
namespace Go.Ux
end Go.Ux
end
section
namespace Go.Ux
open Go Go.Ux.Image
variable {P : Program} {t : TypeId}
namespace Image
end Image
end Go.Ux
end
section
namespace Go.Ux
open Go Go.Ux.Image
namespace Image
def numFrom (a : Nat) (l : List UInt8) : Nat := l.foldl (fun a b => a * 256 + b.toNat) a
def num (l : List UInt8) : Nat := numFrom 0 l
end Image
variable {P : Program} {t : TypeId}
end Go.Ux
end
section
namespace Go.Ux.Image
open Go.Ux
def namesB (l : List (List UInt8 × Int)) (i : Nat) : List (List UInt8) := ((l.take i).map Prod.fst).reverse
def lastAt (l : List (List UInt8 × Int)) : Nat → Int
  | 0 => -1
  | i + 1 => (l.getD i ([], 0)).2
def restOk (I : Img) (i : Nat) : Bool := symsOk I.words.length (namesB I.syms i) (lastAt I.syms i) (I.syms.drop i)
theorem restOk_step (I : Img) (i : Nat) (h : i < I.syms.length) : restOk I i = (symOk I.words.length (namesB I.syms i) (lastAt I.syms i) I.syms[i] && restOk I (i + 1)) := by
  unfold restOk
  rw [List.drop_eq_getElem_cons h]
  have h1 : namesB I.syms (i + 1) = (I.syms[i]).1 :: namesB I.syms i := by
    unfold namesB; rw [List.take_succ_eq_append_getElem h, List.map_append, List.reverse_append]; rfl
  have h2 : lastAt I.syms (i + 1) = (I.syms[i]).2 := by
    show (I.syms.getD i ([], 0)).2 = _
    rw [List.getD, List.getElem?_eq_getElem h]; rfl
  rw [h1, h2]; rfl
theorem restOk_end (I : Img) (i : Nat) (h : I.syms.length ≤ i) : restOk I i = true := by
  unfold restOk; rw [List.drop_of_length_le h]; rfl
def headBad (I : Img) : Bool := decide (I.entry < 0) || decide (524288 < I.entry) || (I.entry.tmod 8 != 0) || decide ((I.syms.length : Int) < 1) || decide (65 < (I.syms.length : Int)) || decide ((I.words.length : Int) < 1) || decide (262144 < (I.words.length : Int))
theorem tmod8 (a : Int) (h : 0 ≤ a) : a.tmod 8 = a % 8 := Int.tmod_eq_emod_of_nonneg h
theorem headBad_no (I : Img) (h : headBad I = true) : rightB I = false := by
  cases hr : rightB I with
  | false => rfl
  | true =>
    exfalso
    simp only [headBad, rightB, right2, right3, right4, Bool.or_eq_true, Bool.and_eq_true, decide_eq_true_eq, bne_iff_ne, beq_iff_eq, ne_eq] at h hr
    rw [tmod8 _ (by omega)] at h
    omega
theorem headBad_ok (I : Img) (h : headBad I = false) : rightB I = (headAt I.syms == 0 && restOk I 0) := by
  have h5 : right5 I = restOk I 0 := rfl
  simp only [headBad, Bool.or_eq_false_iff, decide_eq_false_iff_not, bne_eq_false_iff_eq] at h
  rw [tmod8 _ (by omega)] at h
  have h2 : right2 I = true := by simp only [right2, Bool.and_eq_true, decide_eq_true_eq, beq_iff_eq]; omega
  have h3 : right3 I = true := by simp only [right3, Bool.and_eq_true, decide_eq_true_eq]; omega
  have h4 : right4 I = (headAt I.syms == 0) := by
    have : (decide (1 ≤ I.syms.length) && decide (I.syms.length ≤ 65)) = true := by simp only [Bool.and_eq_true, decide_eq_true_eq]; omega
    unfold right4; rw [this]; rfl
  rw [rightB, h2, h3, h4, h5]; rfl
def symBad (nw i : Nat) (last : Int) (s : List UInt8 × Int) : Bool :=
  decide ((s.1.length : Int) < 1) || decide (64 < (s.1.length : Int)) || (s.2.tmod 4 != 0) || decide (((4 * nw : Nat) : Int) ≤ s.2) || (((i : Int) == 0) && (s.2 != 0)) || (decide (0 < (i : Int)) && decide (s.2 ≤ last))
theorem tmod4 (a : Int) : (a.tmod 4 != 0) = (a % 4 != 0) := by
  rw [Bool.eq_iff_iff]
  simp only [bne_iff_ne, ne_eq]
  rw [Int.tmod_eq_emod]
  split <;> omega
def todo (I : Img) (i : Nat) : Bool := if i = 0 then headAt I.syms == 0 && restOk I 0 else restOk I i
theorem headAt_get' : ∀ (l : List (List UInt8 × Int)) (h : 0 < l.length), headAt l = (l[0]).2
  | [], h => absurd h (by decide)
  | _ :: _, _ => rfl
theorem headAt_get (I : Img) (h : 0 < I.syms.length) : headAt I.syms = (I.syms[0]).2 := headAt_get' _ h
theorem lastAt_get (l : List (List UInt8 × Int)) (i : Nat) (h : i < l.length) : lastAt l (i + 1) = (l[i]).2 := by
  show (l.getD i ([], 0)).2 = _
  rw [List.getD, List.getElem?_eq_getElem h]; rfl
theorem lastAt_pred (l : List (List UInt8 × Int)) (i : Nat) (h0 : 0 < i) (h : i - 1 < l.length) : lastAt l i = (l[i - 1]).2 := by
  have := lastAt_get l (i - 1) h
  rwa [show i - 1 + 1 = i by omega] at this
theorem symOk_bad {nw i : Nat} {ns : List (List UInt8)} {last : Int} {s : List UInt8 × Int} (hi : 0 < i) (h : symBad nw i last s = true) : symOk nw ns last s = false := by
  cases hr : symOk nw ns last s with
  | false => rfl
  | true =>
    exfalso
    rw [symBad, tmod4] at h
    simp only [symOk, Bool.or_eq_true, Bool.and_eq_true, decide_eq_true_eq, bne_iff_ne, beq_iff_eq, ne_eq] at h hr
    omega
theorem todo_bad {I : Img} {i : Nat} (hi : i < I.syms.length) (h : symBad I.words.length i (lastAt I.syms i) I.syms[i] = true) : todo I i = false := by
  unfold todo
  by_cases h0 : i = 0
  · subst h0
    rw [if_pos rfl, headAt_get I hi, restOk_step I 0 hi]
    by_cases hz : (I.syms[0]).2 = 0
    · have : symOk I.words.length (namesB I.syms 0) (lastAt I.syms 0) I.syms[0] = false := by
        cases hr : symOk I.words.length (namesB I.syms 0) (lastAt I.syms 0) I.syms[0] with
        | false => rfl
        | true =>
          exfalso
          rw [symBad, tmod4] at h
          simp only [symOk, Bool.or_eq_true, Bool.and_eq_true, decide_eq_true_eq, bne_iff_ne, beq_iff_eq, ne_eq] at h hr
          omega
      rw [this]; simp
    · rw [beq_eq_false_iff_ne.2 hz]; rfl
  · rw [if_neg h0, restOk_step I i hi, symOk_bad (by omega) h]; rfl
theorem todo_dup {I : Img} {i : Nat} (hi : i < I.syms.length) (h : (namesB I.syms i).contains (I.syms[i]).1 = true) : todo I i = false := by
  have hs : symOk I.words.length (namesB I.syms i) (lastAt I.syms i) I.syms[i] = false := by unfold symOk; rw [h]; simp
  unfold todo
  by_cases h0 : i = 0
  · subst h0; rw [if_pos rfl, restOk_step I 0 hi, hs]; simp
  · rw [if_neg h0, restOk_step I i hi, hs]; rfl
theorem todo_next {I : Img} {i : Nat} (hi : i < I.syms.length) (hl : 0 < i → 0 ≤ lastAt I.syms i) (h : symBad I.words.length i (lastAt I.syms i) I.syms[i] = false) (hc : (namesB I.syms i).contains (I.syms[i]).1 = false) :
    todo I i = todo I (i + 1) ∧ 0 ≤ lastAt I.syms (i + 1) := by
  have hla : i = 0 → lastAt I.syms i = -1 := fun e => by subst e; rfl
  rw [symBad, tmod4] at h
  simp only [Bool.or_eq_false_iff, Bool.and_eq_false_iff, decide_eq_false_iff_not, bne_eq_false_iff_eq, beq_eq_false_iff_ne, ne_eq] at h
  have hs : symOk I.words.length (namesB I.syms i) (lastAt I.syms i) I.syms[i] = true := by
    unfold symOk
    rw [hc]
    simp only [Bool.and_eq_true, decide_eq_true_eq, beq_iff_eq, Bool.not_false, and_true]
    omega
  refine ⟨?_, by rw [lastAt_get _ _ hi]; omega⟩
  unfold todo
  rw [if_neg (show ¬ i + 1 = 0 by omega)]
  by_cases h0 : i = 0
  · subst h0
    rw [if_pos rfl, restOk_step I 0 hi, hs, headAt_get I hi, show (I.syms[0]).2 = 0 by omega]; rfl
  · rw [if_neg h0, restOk_step I i hi, hs]; rfl
theorem todo_end (I : Img) (i : Nat) (hi : 0 < i) (h : I.syms.length ≤ i) : todo I i = true := by
  unfold todo; rw [if_neg (by omega), restOk_end I i h]
theorem dup_of {I : Img} {i k : Nat} (hi : i < I.syms.length) (hk : k < i) (e : (I.syms[k]).1 = (I.syms[i]).1) : (namesB I.syms i).contains (I.syms[i]).1 = true := by
  rw [List.contains_iff_mem]
  unfold namesB
  rw [List.mem_reverse, List.mem_map]
  exact ⟨I.syms[k], List.mem_take_iff_getElem.2 ⟨k, by omega, rfl⟩, e⟩
theorem nodup_of {I : Img} {i : Nat} (hi : i < I.syms.length) (h : ∀ k (hk : k < i), (I.syms[k]).1 ≠ (I.syms[i]).1) : (namesB I.syms i).contains (I.syms[i]).1 = false := by
  cases hc : (namesB I.syms i).contains (I.syms[i]).1 with
  | false => rfl
  | true =>
    rw [List.contains_iff_mem] at hc
    unfold namesB at hc
    rw [List.mem_reverse, List.mem_map] at hc
    obtain ⟨x, hx, e⟩ := hc
    obtain ⟨k, hk, rfl⟩ := List.mem_take_iff_getElem.1 hx
    exact absurd e (h k (by omega))
end Go.Ux.Image
end
section
namespace Go.Ux.Image
open Go.Ux
end Go.Ux.Image
end
section
namespace Go.Ux.Image
open Go Go.Ux
end Go.Ux.Image
namespace Go.Ux
open Go
end Go.Ux
end
section
namespace Go.Ux.Image
open Go Go.Ux
end Go.Ux.Image
end
section
namespace Go.Ux.Image
open Go Go.Ux
theorem name_len {d : List UInt8} {a m : Nat} (h : (m : Int) ≤ (d.length : Int) - a) : ((d.drop a).take m).length = m := by rw [List.length_take, List.length_drop]; omega
end Go.Ux.Image
namespace Go.Ux
open Go
section ops
variable {P : Program} {ops : Array Oper} {l : List Oper} {n : Nat} {f : Fr} {w : World} {Q : Exit → Fr → World → Prop}
variable {d : Nat} {ty : TypeId} {pos : String} {aft : Array Edge}
end ops
end Go.Ux
end
section
namespace Go.Ux.Image
open Go Go.Ux
end Go.Ux.Image
end
