/- Steps of the proof, packed by program: UxCore UxOps UxArith UxMem UxRow UxSl UxDraw UxMore UxApp UxStr. -/
import Derived.WalkKit
import Derived.Orders
import Derived.IntWalk
import Derived.ProofKit
import Derived.OpenShut
import Derived.OrdersHeld
import Derived.Deep.AppendSrc
import Derived.Deep.Upon
import Derived.Deep.MidRow
import Derived.Laws.IdiomStrings
import Derived.Lib.BufferRead
import Derived.Lib.SlBytesConst
import Derived.WideMake
set_option linter.unusedVariables false
set_option linter.unusedSimpArgs false
section
/- The walking engine: the weakest precondition of the model's code over frames read as functions from slots to values; no program in sight. -/
namespace Go.Ux
open Go
abbrev Fr := Nat → Value
def upd (f : Fr) (d : Nat) (v : Value) : Fr := fun t => if t = d then v else f t
theorem upd_same (f : Fr) (d : Nat) (v : Value) : upd f d v d = v := by simp [upd]
theorem upd_other (f : Fr) (d t : Nat) (v : Value) (h : t ≠ d) : upd f d v t = f t := by simp [upd, h]
def updO (f : Fr) : Option Nat → Value → Fr
  | some d, v => upd f d v
  | none, _ => f
def frOf (a : Act) : Fr := fun t => a.tmps.getD t undef
def ev (f : Fr) : Operand → Value
  | .tmp t => f t
  | .const v => v
  | .global g => .pointer (some ⟨g, 0, none⟩)
  | .func g => .func (.func g) #[] #[]
theorem eval_eq (a : Act) : a.eval = ev (frOf a) := by
  funext x; cases x <;> rfl
theorem frOf_put (a : Act) (d : Nat) (v : Value) (h : d < a.tmps.size) : frOf (a.put (some d) v) = upd (frOf a) d v := by
  funext t
  simp only [frOf, Act.put, upd, Array.getD_eq_getD_getElem?, Array.getElem?_setIfInBounds]
  by_cases e : d = t
  · subst e; simp [h]
  · rw [if_neg e, if_neg (fun h => e h.symm)]
theorem frOf_putO (a : Act) (d : Option Nat) (v : Value) (h : ∀ k, d = some k → k < a.tmps.size) : frOf (a.put d v) = updO (frOf a) d v := by
  cases d with
  | none => rfl
  | some k => exact frOf_put a k v (h k rfl)
theorem size_put (a : Act) (d : Option Nat) (v : Value) : (a.put d v).tmps.size = a.tmps.size := by
  cases d <;> simp [Act.put]
theorem defers_put (a : Act) (d : Option Nat) (v : Value) : (a.put d v).defers = a.defers := by
  cases d <;> rfl
/-- The post of a piece of code, over frames as functions. -/
def Post (n : Nat) (Q : Exit → Fr → World → Prop) : Exit → Act → World → Prop :=
  fun e a w => a.tmps.size = n ∧ a.defers = [] ∧ Q e (frOf a) w
def WC (P : Program) (c : Code) (n : Nat) (f : Fr) (w : World) (Q : Exit → Fr → World → Prop) : Prop :=
  ∀ a : Act, a.tmps.size = n → a.defers = [] → frOf a = f → c.wp P (Post n Q) a w
def WL (P : Program) (ops : Array Oper) (l : List Oper) (n : Nat) (f : Fr) (w : World) (Q : Exit → Fr → World → Prop) : Prop :=
  ∀ a : Act, a.tmps.size = n → a.defers = [] → frOf a = f → wpList P ops (Post n Q) l a w
section code
variable {P : Program} {n : Nat} {f : Fr} {w : World} {Q : Exit → Fr → World → Prop}
theorem WC.mono {c : Code} {Q' : Exit → Fr → World → Prop} (h : WC P c n f w Q) (hq : ∀ e f w, Q e f w → Q' e f w) : WC P c n f w Q' :=
  fun a h1 h2 h3 => Code.wp_mono (fun _ _ _ h => ⟨h.1, h.2.1, hq _ _ _ h.2.2⟩) (h a h1 h2 h3)
/-- A cut: what a piece of code leaves, where the ways through it meet again. -/
theorem WC.cut {c : Code} (R : Fr → World → Prop) (h : WC P c n f w (fun e f' w' => e = .normal ∧ R f' w')) (k : ∀ f' w', R f' w' → Q .normal f' w') : WC P c n f w Q :=
  h.mono fun _ f' w' ⟨he, hr⟩ => by subst he; exact k f' w' hr
theorem WC.skip (h : Q .normal f w) : WC P .skip n f w Q := fun _ h1 h2 h3 => wp_skip ⟨h1, h2, by rw [h3]; exact h⟩
theorem WC.ret (h : Q .ret f w) : WC P .ret n f w Q := fun _ h1 h2 h3 => wp_ret ⟨h1, h2, by rw [h3]; exact h⟩
theorem WC.exit {id : Nat} (h : Q (.exit id) f w) : WC P (.exit id) n f w Q := fun _ h1 h2 h3 => wp_exit ⟨h1, h2, by rw [h3]; exact h⟩
def Then (n : Nat) (P : Program) (y : Code) (Q : Exit → Fr → World → Prop) : Exit → Fr → World → Prop
  | .normal, f, w => WC P y n f w Q
  | e, f, w => Q e f w
theorem WC.seq {x y : Code} (h : WC P x n f w (Then n P y Q)) : WC P (.seq x y) n f w Q := by
  intro a h1 h2 h3
  refine wp_seq (Code.wp_mono ?_ (h a h1 h2 h3))
  rintro e a' w' ⟨k1, k2, k3⟩
  cases e with
  | normal => exact k3 a' k1 k2 rfl
  | exit id => exact ⟨k1, k2, k3⟩
  | goto l => exact ⟨k1, k2, k3⟩
  | ret => exact ⟨k1, k2, k3⟩
  | panic c => exact ⟨k1, k2, k3⟩
  | outgrown => exact ⟨k1, k2, k3⟩
theorem WC.cond {c : Operand} {x y : Code} {t : Bool} (hc : ev f c = .bool t) (ht : t = true → WC P x n f w Q) (hf : t = false → WC P y n f w Q) : WC P (.cond c x y) n f w Q := by
  intro a h1 h2 h3
  refine wp_cond_split (t := t) (by rw [eval_eq, h3]; exact hc) (fun e => ht e a h1 h2 h3) (fun e => hf e a h1 h2 h3)
theorem WC.condT {c : Operand} {x y : Code} (hc : ev f c = .bool true) (h : WC P x n f w Q) : WC P (.cond c x y) n f w Q :=
  WC.cond hc (fun _ => h) (fun e => by cases e)
theorem WC.condF {c : Operand} {x y : Code} (hc : ev f c = .bool false) (h : WC P y n f w Q) : WC P (.cond c x y) n f w Q :=
  WC.cond hc (fun e => by cases e) (fun _ => h)
def InB (id : Nat) (Q : Exit → Fr → World → Prop) : Exit → Fr → World → Prop
  | .exit id', f, w => if id' = id then Q .normal f w else Q (.exit id') f w
  | e, f, w => Q e f w
theorem WC.block {id : Nat} {c : Code} (h : WC P c n f w (InB id Q)) : WC P (.block id c) n f w Q := by
  intro a h1 h2 h3
  refine wp_block (Code.wp_mono ?_ (h a h1 h2 h3))
  rintro e a' w' ⟨k1, k2, k3⟩
  cases e with
  | exit id' =>
    simp only [InB] at k3
    simp only [Exit.inBlock]
    split
    · rename_i he; rw [if_pos he] at k3; exact ⟨k1, k2, k3⟩
    · rename_i he; rw [if_neg he] at k3; exact ⟨k1, k2, k3⟩
  | normal => exact ⟨k1, k2, k3⟩
  | goto l => exact ⟨k1, k2, k3⟩
  | ret => exact ⟨k1, k2, k3⟩
  | panic c => exact ⟨k1, k2, k3⟩
  | outgrown => exact ⟨k1, k2, k3⟩
theorem min_of (p : Nat → Prop) (h : ∃ k, p k) : ∃ k, p k ∧ ∀ j, p j → k ≤ j := by
  obtain ⟨k, hk⟩ := h
  induction k using Nat.strongRecOn with
  | _ k ih =>
    by_cases hex : ∃ j, j < k ∧ p j
    · obtain ⟨j, hj, hpj⟩ := hex
      exact ih j hj hpj
    · exact ⟨k, hk, fun j hj => Nat.le_of_not_lt fun hlt => hex ⟨j, hlt, hj⟩⟩
/-- What a round leaves: another one with a smaller number, or a way out. -/
def Round (I : Nat → Fr → World → Prop) (Q : Exit → Fr → World → Prop) (k : Nat) : Exit → Fr → World → Prop
  | .normal, f, w => ∃ j, j < k ∧ I j f w
  | e, f, w => Q e f w
/-- A loop: 'I k': what holds at a round's head, with at most k rounds behind it. -/
theorem WC.loop {c : Code} (I : Nat → Fr → World → Prop) (k : Nat) (h0 : I k f w)
    (round : ∀ k f w, I k f w → WC P c n f w (Round I Q k)) : WC P (.loop c) n f w Q := by
  intro a h1 h2 h3
  let J : Act → World → Prop := fun a w => a.tmps.size = n ∧ a.defers = [] ∧ ∃ k, I k (frOf a) w
  have hμ : ∀ a w, ∃ m, J a w → I m (frOf a) w ∧ ∀ j, I j (frOf a) w → m ≤ j := fun a w => by
    by_cases h : J a w
    · obtain ⟨m, hm, hl⟩ := min_of (fun k => I k (frOf a) w) h.2.2
      exact ⟨m, fun _ => ⟨hm, hl⟩⟩
    · exact ⟨0, fun h' => (h h').elim⟩
  let μ : Act → World → Nat := fun a w => Classical.choose (hμ a w)
  have hspec : ∀ a w, J a w → I (μ a w) (frOf a) w ∧ ∀ j, I j (frOf a) w → μ a w ≤ j := fun a w => Classical.choose_spec (hμ a w)
  refine wp_loop J μ ⟨h1, h2, k, by rw [h3]; exact h0⟩ ?_
  intro a w hJ
  obtain ⟨hI, hmin⟩ := hspec a w hJ
  refine Code.wp_mono ?_ (round (μ a w) (frOf a) w hI a hJ.1 hJ.2.1 rfl)
  rintro e a' w' ⟨k1, k2, k3⟩
  cases e with
  | normal =>
    obtain ⟨j, hj, hIj⟩ := k3
    have hJ' : J a' w' := ⟨k1, k2, j, hIj⟩
    exact ⟨hJ', Nat.lt_of_le_of_lt ((hspec a' w' hJ').2 j hIj) hj⟩
  | exit id' => exact ⟨k1, k2, k3⟩
  | goto l => exact ⟨k1, k2, k3⟩
  | ret => exact ⟨k1, k2, k3⟩
  | panic c => exact ⟨k1, k2, k3⟩
  | outgrown => exact ⟨k1, k2, k3⟩
theorem WC.region {id : Nat} {l : List Oper} (h : WL P l.toArray l n f w Q) : WC P (.region id l.toArray false) n f w Q :=
  fun a h1 h2 h3 => wp_region_lit (h a h1 h2 h3)
end code
section lists
variable {P : Program} {ops : Array Oper} {l : List Oper} {n : Nat} {f : Fr} {w : World} {Q : Exit → Fr → World → Prop} {o : Oper}
theorem WL.nil (h : Q .normal f w) : WL P ops [] n f w Q := fun _ h1 h2 h3 => ⟨h1, h2, by rw [h3]; exact h⟩
def dstOk (n : Nat) : Option Nat → Bool
  | some d => decide (d < n)
  | none => true
theorem dstOk_spec {n : Nat} {d : Option Nat} (h : dstOk n d = true) : ∀ k, d = some k → k < n := by
  intro k e; subst e; simpa [dstOk] using h
/-- An operation that yields a value. -/
theorem WL.val {v : Value} {w' : World} (hg : o.guard = none) (hd : dstOk n o.dst = true) (hr : (execOp (ev f) o).run P w = .ok (.value v) w')
    (k : WL P ops l n (updO f o.dst v) w' Q) : WL P ops (o :: l) n f w Q := by
  intro a h1 h2 h3
  refine wpList_plain hg fun K hK => ?_
  unfold Oper.wp
  rw [eval_eq, h3, hr]
  refine hK _ _ (k _ (by rw [size_put, h1]) (by rw [defers_put, h2]) ?_)
  rw [frOf_putO _ _ _ (by rw [h1]; exact dstOk_spec hd), h3]
/-- An operation that yields nothing. -/
theorem WL.skp {w' : World} (hg : o.guard = none) (hd : o.dst = none) (hr : (execOp (ev f) o).run P w = .ok .skip w')
    (k : WL P ops l n f w' Q) : WL P ops (o :: l) n f w Q := by
  intro a h1 h2 h3
  refine wpList_plain hg fun K hK => ?_
  unfold Oper.wp
  rw [eval_eq, h3, hr]
  refine hK _ _ (k _ (by rw [size_put, h1]) (by rw [defers_put, h2]) ?_)
  rw [hd]; exact h3
/-- What a call hands back. -/
def CallsR (P : Program) (g : Nat) (args : Array Value) (w : World) (S : Value → World → Prop) : Prop :=
  Calls P g args w fun e w' => ∃ v, e = .returned v ∧ S v w'
theorem CallsR.mono {g : Nat} {args : Array Value} {w : World} {S S' : Value → World → Prop} (h : CallsR P g args w S) (hs : ∀ v w', S v w' → S' v w') : CallsR P g args w S' :=
  Calls.mono h fun _ _ ⟨v, he, hv⟩ => ⟨v, he, hs v _ hv⟩
theorem WL.enter {g : Nat} {args : Array Value} {S : Value → World → Prop} (hg : o.guard = none) (hd : dstOk n o.dst = true)
    (hr : (execOp (ev f) o).run P w = .ok (.enter g args) w) (c : CallsR P g args w S)
    (k : ∀ v w', S v w' → WL P ops l n (updO f o.dst v) w' Q) : WL P ops (o :: l) n f w Q := by
  intro a h1 h2 h3
  refine wpList_plain hg fun K hK => ?_
  unfold Oper.wp
  rw [eval_eq, h3, hr]
  refine Calls.mono c ?_
  rintro e w' ⟨v, rfl, hv⟩
  refine hK _ _ (k v w' hv _ (by rw [size_put, h1]) (by rw [defers_put, h2]) ?_)
  rw [frOf_putO _ _ _ (by rw [h1]; exact dstOk_spec hd), h3]
/-- What operation j yields to the guards. -/
def yf (ops : Array Oper) (f : Fr) (j : Nat) : Option Bool :=
  match (ops[j]?).bind (·.dst) with
  | some d => match f d with
    | .bool b => some b
    | _ => none
  | none => none
theorem yielded_eq (a : Act) (j : Nat) (b : Bool) (h : yf ops (frOf a) j = some b) : yielded ops a.tmps j = some b := by
  unfold yf at h
  unfold yielded
  cases hd : (ops[j]?).bind (·.dst) with
  | none => rw [hd] at h; cases h
  | some d =>
    rw [hd] at h
    simp only [frOf, Array.getD_eq_getD_getElem?] at h
    simp only [Option.bind_some]
    cases hv : a.tmps[d]? with
    | none => rw [hv] at h; simp [undef] at h
    | some v =>
      rw [hv] at h
      simp only [Option.getD_some] at h
      cases v <;> simp_all
theorem WL.guardT {d : Option Nat} {op : Op} {ty : TypeId} {pos : String} {aft : Array Edge} {j : Nat} {b : Bool} (hj : yf ops f j = some b)
    (k : WL P ops (⟨d, op, ty, pos, aft, none⟩ :: l) n f w Q) : WL P ops (⟨d, op, ty, pos, aft, some (j, b)⟩ :: l) n f w Q := by
  intro a h1 h2 h3
  have h := k a h1 h2 h3
  have hw : Region.wanted (⟨d, op, ty, pos, aft, some (j, b)⟩ : Oper) (yielded ops a.tmps) = true := by
    simp only [Region.wanted]
    rw [yielded_eq a j b (by rw [h3]; exact hj)]; simp
  unfold wpList at h ⊢
  rw [if_pos (by simp [Region.wanted])] at h
  rw [if_pos hw]
  exact h
theorem WL.guardF {d : Option Nat} {op : Op} {ty : TypeId} {pos : String} {aft : Array Edge} {j : Nat} {b b' : Bool} (hj : yf ops f j = some b') (hne : (b' == b) = false) (hd : dstOk n d = true)
    (k : WL P ops l n (updO f d undef) w Q) : WL P ops (⟨d, op, ty, pos, aft, some (j, b)⟩ :: l) n f w Q := by
  intro a h1 h2 h3
  have hw : Region.wanted (⟨d, op, ty, pos, aft, some (j, b)⟩ : Oper) (yielded ops a.tmps) = false := by
    simp only [Region.wanted]
    rw [yielded_eq a j b' (by rw [h3]; exact hj)]
    simpa using hne
  unfold wpList
  rw [if_neg (by rw [hw]; simp)]
  refine k _ (by rw [size_put, h1]) (by rw [defers_put, h2]) ?_
  rw [frOf_putO _ _ _ (by rw [h1]; exact dstOk_spec hd), h3]
theorem yielded_none (a : Act) (j : Nat) (h : yf ops (frOf a) j = none) : yielded ops a.tmps j = none := by
  unfold yf at h
  unfold yielded
  cases hd : (ops[j]?).bind (·.dst) with
  | none => rfl
  | some d =>
    rw [hd] at h
    simp only [frOf, Array.getD_eq_getD_getElem?] at h
    simp only [Option.bind_some]
    cases hv : a.tmps[d]? with
    | none => rfl
    | some v =>
      rw [hv] at h
      simp only [Option.getD_some] at h
      cases v <;> simp_all
theorem WL.guardU {d : Option Nat} {op : Op} {ty : TypeId} {pos : String} {aft : Array Edge} {j : Nat} {b : Bool} (hj : yf ops f j = none) (hd : dstOk n d = true)
    (k : WL P ops l n (updO f d undef) w Q) : WL P ops (⟨d, op, ty, pos, aft, some (j, b)⟩ :: l) n f w Q := by
  intro a h1 h2 h3
  have hw : Region.wanted (⟨d, op, ty, pos, aft, some (j, b)⟩ : Oper) (yielded ops a.tmps) = false := by
    simp only [Region.wanted]
    rw [yielded_none a j (by rw [h3]; exact hj)]; rfl
  unfold wpList
  rw [if_neg (by rw [hw]; simp)]
  refine k _ (by rw [size_put, h1]) (by rw [defers_put, h2]) ?_
  rw [frOf_putO _ _ _ (by rw [h1]; exact dstOk_spec hd), h3]
end lists
section calls
variable {P : Program}
/-- The results of a function, read off its frame. -/
def Res (P : Program) (fn : Func) (n : Nat) (f : Fr) (w : World) (v : Value) : Prop :=
  ∀ a : Act, a.tmps.size = n → frOf a = f → (results fn a.tmps).run P w = .ok v w
def Fin (P : Program) (fn : Func) (n : Nat) (S : Value → World → Prop) : Exit → Fr → World → Prop
  | .normal, f, w | .ret, f, w => ∃ v, Res P fn n f w v ∧ S v w
  | _, _, _ => False
theorem callsR_of {i : Nat} {fn : Func} {c : Code} {args : Array Value} {w : World} {n : Nat} {S : Value → World → Prop} (hf : P.funcs[i]? = some fn) (hb : fn.body = some c)
    (hn : fn.ntmps = n) (ha' : decide (args.size ≤ n) = true) (h : WC P c n (fun t => args.getD t undef) w (Fin P fn n S)) : CallsR P i args w S := by
  have ha : args.size ≤ n := of_decide_eq_true ha'
  refine calls_of_wp hf hb ?_
  have hsz : (args ++ Array.replicate (fn.ntmps - args.size) undef).size = n := by simp; omega
  refine Code.wp_mono ?_ (h ⟨args ++ Array.replicate (fn.ntmps - args.size) undef, []⟩ hsz rfl ?_)
  · rintro e a w' ⟨k1, k2, k3⟩
    cases e with
    | normal => obtain ⟨v, hv, hs⟩ := k3; exact ⟨k2, v, hv a k1 rfl, v, rfl, hs⟩
    | ret => obtain ⟨v, hv, hs⟩ := k3; exact ⟨k2, v, hv a k1 rfl, v, rfl, hs⟩
    | exit id => exact k3.elim
    | goto l => exact k3.elim
    | panic c => exact k3.elim
    | outgrown => exact k3.elim
  · funext t
    simp only [frOf, Array.getD_eq_getD_getElem?, Array.getElem?_append]
    split
    · rfl
    · rename_i hlt
      rw [Array.getElem?_eq_none (xs := args) (by omega)]
      simp only [Array.getElem?_replicate]
      split <;> rfl
theorem Res.one {fn : Func} {n : Nat} {f : Fr} {w : World} {t : Nat} {v : Value} (h : fn.results = #[.tmp t]) (hv : f t = v) : Res P fn n f w v := by
  intro a _ ha
  rw [results_tmp h, ← hv, ← ha]; rfl
theorem Res.two {fn : Func} {n : Nat} {f : Fr} {w : World} {t u : Nat} {v v' : Value} (h : fn.results = #[.tmp t, .tmp u]) (hv : f t = v) (hv' : f u = v') : Res P fn n f w (.tuple #[v, v']) := by
  intro a _ ha
  rw [results_tmp2 h, ← hv, ← hv', ← ha]; rfl
theorem Res.zero {fn : Func} {n : Nat} {f : Fr} {w : World} (h : fn.results = #[]) : Res P fn n f w (.tuple #[]) := by
  intro a _ _
  rw [results_none h]
/-- A struct handed back out of a block. -/
theorem Res.cell {fn : Func} {n : Nat} {f : Fr} {w : World} {t ty b o : Nat} {v : Value} (h : fn.results = #[.cell t ty]) (hp : f t = .pointer (some ⟨b, o, none⟩)) (hv : (loadVar ty ⟨b, o, none⟩).run P w = .ok v w) : Res P fn n f w v := by
  intro a _ ha
  have e : a.tmps.getD t undef = .pointer (some ⟨b, o, none⟩) := by rw [← hp, ← ha]; rfl
  rw [Array.getD_eq_getD_getElem?] at e
  simp [results, h, asAddr, e, hv, Result.andThen]
theorem Res.cellTmp {fn : Func} {n : Nat} {f : Fr} {w : World} {t ty b o u : Nat} {v v' : Value} (h : fn.results = #[.cell t ty, .tmp u]) (hp : f t = .pointer (some ⟨b, o, none⟩)) (hv : (loadVar ty ⟨b, o, none⟩).run P w = .ok v w) (hu : f u = v') : Res P fn n f w (.tuple #[v, v']) := by
  intro a _ ha
  have e : a.tmps.getD t undef = .pointer (some ⟨b, o, none⟩) := by rw [← hp, ← ha]; rfl
  have e' : a.tmps.getD u undef = v' := by rw [← hu, ← ha]; rfl
  rw [Array.getD_eq_getD_getElem?] at e e'
  simp [results, h, asAddr, e, hv, e', Result.andThen]
theorem Res.three {fn : Func} {n : Nat} {f : Fr} {w : World} {t u r : Nat} {v v' v'' : Value} (h : fn.results = #[.tmp t, .tmp u, .tmp r]) (hv : f t = v) (hv' : f u = v') (hv'' : f r = v'') : Res P fn n f w (.tuple #[v, v', v'']) := by
  intro a _ ha
  rw [results_tmp3 h, ← hv, ← hv', ← hv'', ← ha]; rfl
end calls
end Go.Ux
end
section
/- The walking engine, its operations: one lemma for each kind of operation. -/
namespace Go.Ux
open Go
abbrev ptr (b o : Nat) : Value := .pointer (some ⟨b, o, none⟩)
/-! ### Worlds -/
/-- Of the blocks that were there, those outside O are as they were. -/
structure Mod (O : Nat → Prop) (w w' : World) : Prop where
  os : w'.os = w.os
  tape : w'.tape = w.tape
  output : w'.output = w.output
  size : w.heap.size ≤ w'.heap.size
  block : ∀ k, k < w.heap.size → ¬ O k → w'.heap[k]? = w.heap[k]?
abbrev Ext (w w' : World) : Prop := Mod (fun _ => False) w w'
theorem Mod.refl (O : Nat → Prop) (w : World) : Mod O w w := ⟨rfl, rfl, rfl, Nat.le_refl _, fun _ _ _ => rfl⟩
theorem Mod.trans {O : Nat → Prop} {a b c : World} (h : Mod O a b) (k : Mod O b c) : Mod O a c :=
  ⟨k.os.trans h.os, k.tape.trans h.tape, k.output.trans h.output, Nat.le_trans h.size k.size,
    fun i hi hO => (k.block i (Nat.lt_of_lt_of_le hi h.size) hO).trans (h.block i hi hO)⟩
theorem Mod.imp {O O' : Nat → Prop} {a b : World} (h : Mod O a b) (k : ∀ i, i < a.heap.size → O i → O' i) : Mod O' a b :=
  ⟨h.os, h.tape, h.output, h.size, fun i hi hO => h.block i hi fun x => hO (k i hi x)⟩
/-- Two steps, of which the second turns only blocks that are new to the first world, or such as may be turned. -/
theorem Mod.then {O O' : Nat → Prop} {a b c : World} (h : Mod O a b) (k : Mod O' b c) (hO : ∀ i, i < a.heap.size → O' i → O i) : Mod O a c :=
  ⟨k.os.trans h.os, k.tape.trans h.tape, k.output.trans h.output, Nat.le_trans h.size k.size,
    fun i hi hn => (k.block i (Nat.lt_of_lt_of_le hi h.size) fun x => hn (hO i hi x)).trans (h.block i hi hn)⟩
theorem Mod.ext {O : Nat → Prop} {a b : World} (h : Ext a b) : Mod O a b := h.imp fun _ _ h => h.elim
theorem Mod.drew (O : Nat → Prop) (w : World) : Mod O w { w with drawn := w.drawn + 1 } := ⟨rfl, rfl, rfl, Nat.le_refl _, fun _ _ _ => rfl⟩
theorem Mod.cell {O : Nat → Prop} {w w' : World} (h : Mod O w w') {a : Addr} {v : Value} (hc : w.cell? a = some v) (hO : ¬ O a.block) : w'.cell? a = some v :=
  (World.cell?_of_block (h.block a.block (World.block_lt_of_cell? w a hc) hO)).trans hc
theorem Mod.below {w w' : World} (h : Ext w w') : RowKit.Below w.heap.size w w' := ⟨h.os, h.tape, h.output, h.size, fun k hk => h.block k hk (fun x => x)⟩
/-- Block b is a row of these cells, all of which may be written. -/
def Blk (w : World) (b : Nat) (cs : Array Value) (t : TypeId) : Prop := w.heap[b]? = some (.cells cs t (0, 0))
theorem Blk.lt {w : World} {b : Nat} {cs : Array Value} {t : TypeId} (h : Blk w b cs t) : b < w.heap.size := (Array.getElem?_eq_some_iff.1 h).1
theorem Blk.mod {O : Nat → Prop} {w w' : World} {b : Nat} {cs : Array Value} {t : TypeId} (h : Blk w b cs t) (m : Mod O w w') (hO : ¬ O b) : Blk w' b cs t :=
  (m.block b h.lt hO).trans h
theorem Blk.ext {w w' : World} {b : Nat} {cs : Array Value} {t : TypeId} (h : Blk w b cs t) (m : Ext w w') : Blk w' b cs t := h.mod m fun x => x
theorem Blk.cell {w : World} {b : Nat} {cs : Array Value} {t : TypeId} (h : Blk w b cs t) {j : Nat} {v : Value} (hv : cs[j]? = some v) : w.cell? ⟨b, j, none⟩ = some v := by
  unfold Blk at h; simp [World.cell?, h, hv]
theorem Blk.frozen {w : World} {b : Nat} {cs : Array Value} {t : TypeId} (h : Blk w b cs t) (j : Nat) : w.frozen? ⟨b, j, none⟩ = false := by
  unfold Blk at h; simp [World.frozen?, h]
theorem alloc_ext (w : World) (o : Obj) : Ext w (w.alloc o) :=
  ⟨rfl, rfl, rfl, by simp, fun k hk _ => RowKit.Below.heap_alloc w o k hk⟩
theorem alloc_blk (w : World) (cs : Array Value) (t : TypeId) : Blk (w.alloc (.cells cs t)) w.heap.size cs t := heap_alloc_new w _
/-- A new block. -/
structure New (w w' : World) (b : Nat) (cs : Array Value) (t : TypeId) : Prop where
  ext : Ext w w'
  blk : Blk w' b cs t
  num : b = w.heap.size
  size : w'.heap.size = w.heap.size + 1
theorem New.mk' (w : World) (cs : Array Value) (t : TypeId) : New w (w.alloc (.cells cs t)) w.heap.size cs t :=
  ⟨alloc_ext w _, alloc_blk w cs t, rfl, by simp⟩
theorem setCell_mod (w : World) (b j : Nat) (v : Value) : Mod (· = b) w (w.setCell ⟨b, j, none⟩ v) :=
  ⟨rfl, rfl, rfl, by simp [World.setCell], fun k _ hk => RowKit.Below.heap_setCell w _ v k hk⟩
theorem setCell_blk {w : World} {b : Nat} {cs : Array Value} {t : TypeId} (h : Blk w b cs t) (j : Nat) (v : Value) : Blk (w.setCell ⟨b, j, none⟩ v) b (cs.setIfInBounds j v) t := by
  unfold Blk at *
  simp only [World.setCell, Array.getElem?_modify, if_pos, h, Option.map_some]
  rfl
/-! ### Closed facts on types -/
def isAggT (P : Program) (t : Nat) : Option Bool :=
  match P.underlying t with
  | some (.struct _) | some (.array _ _) => some true
  | some _ => some false
  | none => none
def sizeT (P : Program) (t : Nat) : Option Nat := (P.info? t).map (·.size)
def fieldOff (P : Program) (s k : Nat) : Option Nat :=
  match P.underlying s with
  | some (.struct fs) => match fs[k]? with
    | some f => match P.info? f.type with
      | some i => if i.size = 0 then none else some f.offset
      | none => none
    | none => none
  | _ => none
def elemT (P : Program) (t : Nat) : Option Nat :=
  match P.underlying t with
  | some (.slice e) => some e
  | _ => none
theorem isAggT_run {P : Program} {t : Nat} {b : Bool} (h : isAggT P t = some b) (w : World) : (isAgg t).run P w = .ok b w := by
  unfold isAggT at h
  cases hu : P.underlying t with
  | none => rw [hu] at h; cases h
  | some d =>
    rw [hu] at h
    simp only [isAgg, Sem.run_bind, run_underlying hu, Result.andThen]
    cases d <;> simp_all
theorem sizeT_run {P : Program} {t : Nat} {m : Nat} (h : sizeT P t = some m) (w : World) : (sizeOf t).run P w = .ok m w := by
  unfold sizeT at h
  obtain ⟨i, hi, rfl⟩ := Option.map_eq_some_iff.1 h
  simp [sizeOf, typeInfo, hi, go_sem]
theorem addr_add (b o j : Nat) : (⟨b, o, none⟩ : Addr).add j = ⟨b, o + j, none⟩ := by unfold Addr.add; split <;> simp_all
section ops
variable {P : Program} {ops : Array Oper} {l : List Oper} {n : Nat} {f : Fr} {w : World} {Q : Exit → Fr → World → Prop}
variable {d : Nat} {ty : TypeId} {pos : String} {aft : Array Edge}
theorem WL.move {x : Operand} {v : Value} (hx : ev f x = v) (hd : decide (d < n) = true) (k : WL P ops l n (upd f d v) w Q) :
    WL P ops (⟨some d, .move x, ty, pos, aft, none⟩ :: l) n f w Q :=
  WL.val rfl hd (v := v) (w' := w) (by rw [← hx]; rfl) k
theorem WL.assign {x : Operand} {v : Value} (hx : ev f x = v) (hd : decide (d < n) = true) (k : WL P ops l n (upd f d v) w Q) :
    WL P ops (⟨some d, .assign x, ty, pos, aft, none⟩ :: l) n f w Q :=
  WL.val rfl hd (v := v) (w' := w) (by rw [← hx]; rfl) k
theorem WL.pick {c x y : Operand} {b : Bool} {v : Value} (hc : ev f c = .bool b) (hv : (if b then ev f x else ev f y) = v) (hd : decide (d < n) = true)
    (k : WL P ops l n (upd f d v) w Q) : WL P ops (⟨some d, .pick c x y, ty, pos, aft, none⟩ :: l) n f w Q :=
  WL.val rfl hd (v := v) (w' := w) (by simp [execOp, hc, asBool, hv]) k
theorem WL.extract {x : Operand} {i : Nat} {vs : Array Value} {v : Value} (hx : ev f x = .tuple vs) (hv : vs[i]? = some v) (hd : decide (d < n) = true)
    (k : WL P ops l n (upd f d v) w Q) : WL P ops (⟨some d, .extract x i, ty, pos, aft, none⟩ :: l) n f w Q :=
  WL.val rfl hd (v := v) (w' := w) (by simp [execOp, hx, Instr.extract, hv]) k
/-- What a binary operation makes of two values. -/
def BinR (P : Program) (op : BinOp) (t : TypeId) (vx vy v : Value) : Prop :=
  ∀ (x y : Operand) (w : World), ((do eqGuard op t x y vx vy; binOp op t vx vy : Sem Value)).run P w = .ok v w
theorem WL.bin {op : BinOp} {t u : TypeId} {x y : Operand} {vx vy v : Value} (hx : ev f x = vx) (hy : ev f y = vy) (hd : decide (d < n) = true) (b : BinR P op t vx vy v)
    (k : WL P ops l n (upd f d v) w Q) : WL P ops (⟨some d, .binOp op t x y u, ty, pos, aft, none⟩ :: l) n f w Q :=
  WL.val rfl hd (v := v) (w' := w) (by simp only [execOp, hx, hy]; rw [Sem.run_bind, b x y w]; simp [Result.andThen]) k
def UnR (P : Program) (op : UnOp) (vx v : Value) : Prop := ∀ w : World, (Op.unary op vx).run P w = .ok v w
theorem WL.un {op : UnOp} {t : TypeId} {x : Operand} {vx v : Value} (hx : ev f x = vx) (hd : decide (d < n) = true) (b : UnR P op vx v)
    (k : WL P ops l n (upd f d v) w Q) : WL P ops (⟨some d, .unOp op t x, ty, pos, aft, none⟩ :: l) n f w Q :=
  WL.val rfl hd (v := v) (w' := w) (by simp only [execOp, hx]; rw [Sem.run_bind, b w]; simp [Result.andThen]) k
def ConvR (P : Program) (s t : TypeId) (vx v : Value) : Prop := ∀ w : World, (convert s t vx).run P w = .ok v w
theorem WL.conv {s t : TypeId} {x : Operand} {vx v : Value} (hx : ev f x = vx) (hd : decide (d < n) = true) (b : ConvR P s t vx v)
    (k : WL P ops l n (upd f d v) w Q) : WL P ops (⟨some d, .convert s t x, ty, pos, aft, none⟩ :: l) n f w Q :=
  WL.val rfl hd (v := v) (w' := w) (by simp only [execOp, hx]; rw [Sem.run_bind, b w]; simp [Result.andThen]) k
theorem WL.fieldAddr {s i : Nat} {x : Operand} {b o off : Nat} (hx : ev f x = ptr b o) (hf : fieldOff P s i = some off) (hd : decide (d < n) = true)
    (k : WL P ops l n (upd f d (ptr b (o + off))) w Q) : WL P ops (⟨some d, .fieldAddr s x i, ty, pos, aft, none⟩ :: l) n f w Q := by
  refine WL.val rfl hd (v := ptr b (o + off)) (w' := w) ?_ k
  unfold fieldOff at hf
  split at hf <;> try cases hf
  rename_i fs hu
  split at hf <;> try cases hf
  rename_i fd hfd
  split at hf <;> try cases hf
  rename_i inf hi
  split at hf <;> try cases hf
  rename_i hz
  simp [execOp, hx, Instr.fieldAt, run_underlying hu, hfd, Instr.sureAddr, fieldPlace, sizeOf, typeInfo, hi, hz, addr_add, Result.andThen]
theorem WL.field1 {s i : Nat} {x : Operand} {cs : Array Value} {off : Nat} {v : Value} {fs : Array Field} {fd : Field} (hx : ev f x = .agg cs) (hu : P.underlying s = some (.struct fs)) (hfd : fs[i]? = some fd)
    (ha : isAggT P fd.type = some false) (ho : fd.offset = off) (hv : cs[off]? = some v) (hd : decide (d < n) = true)
    (k : WL P ops l n (upd f d v) w Q) : WL P ops (⟨some d, .field s x i, ty, pos, aft, none⟩ :: l) n f w Q := by
  refine WL.val rfl hd (v := v) (w' := w) ?_ k
  subst ho
  simp [execOp, hx, Instr.field, run_underlying hu, hfd, part, asAgg, isAggT_run ha, hv, Result.andThen]
theorem WL.load1 {t : Nat} {x : Operand} {b o : Nat} {v : Value} (hx : ev f x = ptr b o) (ht : isAggT P t = some false) (hc : w.cell? ⟨b, o, none⟩ = some v) (hd : decide (d < n) = true)
    (k : WL P ops l n (upd f d v) w Q) : WL P ops (⟨some d, .load t x, ty, pos, aft, none⟩ :: l) n f w Q :=
  WL.val rfl hd (v := v) (w' := w) (by simp [execOp, hx, Instr.loadAt, Instr.sureAddr, loadVar, isAggT_run ht, load, Sem.run, hc, Result.andThen]) k
/-- The cells from a place on. -/
def Cells (w : World) (b o : Nat) (vs : List Value) : Prop := ∀ j u, vs[j]? = some u → w.cell? ⟨b, o + j, none⟩ = some u
theorem Blk.cells {w : World} {b : Nat} {cs : Array Value} {t : TypeId} (h : Blk w b cs t) : Cells w b 0 cs.toList := by
  intro j u hj; rw [Nat.zero_add]; exact h.cell (by simpa using hj)
theorem Blk.sub {w : World} {b : Nat} {cs : Array Value} {t : TypeId} (h : Blk w b cs t) {o : Nat} {vs : List Value} (hv : (cs.toList.drop o).take vs.length = vs) : Cells w b o vs := by
  intro j u hj
  refine h.cell ?_
  rw [← hv, List.getElem?_take] at hj
  split at hj
  · rw [List.getElem?_drop] at hj; simpa using hj
  · cases hj
theorem Cells.mod {O : Nat → Prop} {w w' : World} {b o : Nat} {vs : List Value} (h : Cells w b o vs) (m : Mod O w w') (hO : ¬ O b) : Cells w' b o vs :=
  fun j u hj => m.cell (h j u hj) hO
theorem loadVar_agg {t m b o : Nat} {w : World} (vs : List Value) (ht : isAggT P t = some true) (hz : sizeT P t = some m) (hl : vs.length = m) (hc : Cells w b o vs) : (loadVar t ⟨b, o, none⟩).run P w = .ok (.agg vs.toArray) w := by
  have := run_loadCells_list (P := P) w ⟨b, o, none⟩ vs (fun j v hv => by rw [addr_add]; exact hc j v hv)
  simp [loadVar, isAggT_run ht, sizeT_run hz, ← hl, this, Result.andThen]
theorem WL.loadS {t : Nat} {x : Operand} {b o : Nat} (vs : List Value) {m : Nat} (hx : ev f x = ptr b o) (ht : isAggT P t = some true) (hz : sizeT P t = some m) (hl : vs.length = m) (hc : Cells w b o vs) (hd : decide (d < n) = true)
    (k : WL P ops l n (upd f d (.agg vs.toArray)) w Q) : WL P ops (⟨some d, .load t x, ty, pos, aft, none⟩ :: l) n f w Q := by
  refine WL.val rfl hd (v := .agg vs.toArray) (w' := w) ?_ k
  have := run_loadCells_list (P := P) w ⟨b, o, none⟩ vs (fun j v hv => by rw [addr_add]; exact hc j v hv)
  simp [execOp, hx, Instr.loadAt, Instr.sureAddr, loadVar, isAggT_run ht, sizeT_run hz, ← hl, this, Result.andThen]
theorem WL.store1 {t : Nat} {x y : Operand} {b o : Nat} {v u : Value} (hx : ev f x = ptr b o) (hy : ev f y = v) (hv : v.oneCell' = true) (hz : sizeT P t = some 1) (hc : w.cell? ⟨b, o, none⟩ = some u) (hf : w.frozen? ⟨b, o, none⟩ = false)
    (k : WL P ops l n f (w.setCell ⟨b, o, none⟩ v) Q) : WL P ops (⟨none, .store t x y, ty, pos, aft, none⟩ :: l) n f w Q := by
  refine WL.skp rfl rfl (w' := w.setCell ⟨b, o, none⟩ v) ?_ k
  have h1 : v.cells = #[v] := by cases v <;> simp_all [Value.oneCell', Value.cells]
  simp [execOp, hx, hy, Instr.storeAt, Instr.sureAddr, storeVar, sizeT_run hz, h1, storeCells, store, addr_add, Result.andThen]
  cases v <;> simp_all [Value.oneCell', Sem.run, Result.andThen]
end ops
end Go.Ux
end
section
/- The walking engine, its arithmetic: numbers as bit vectors, or as integers in range. -/
namespace Go.Ux
open Go
abbrev I64 (x : BitVec 64) : Value := .int .i64 x.toInt
abbrev U64 (x : BitVec 64) : Value := .int .u64 (x.toNat : Int)
abbrev U32 (x : BitVec 32) : Value := .int .u32 (x.toNat : Int)
abbrev U8 (x : BitVec 8) : Value := .int .u8 (x.toNat : Int)
abbrev IN (k : Nat) : Value := .int .i64 (k : Int)
theorem wrap_i64_bv (n : Int) : IntKind.i64.wrap n = (BitVec.ofInt 64 n).toInt := by
  rw [BitVec.toInt_ofInt]
  simp only [IntKind.wrap, IntKind.bits, IntKind.signed, Int.bmod]
  simp
  split <;> split <;> omega
theorem wrap_u64_bv (n : Int) : IntKind.u64.wrap n = ((BitVec.ofInt 64 n).toNat : Int) := by
  rw [BitVec.toNat_ofInt]
  simp only [IntKind.wrap, IntKind.bits, IntKind.signed]
  simp; omega
theorem wrap_u32_bv (n : Int) : IntKind.u32.wrap n = ((BitVec.ofInt 32 n).toNat : Int) := by
  rw [BitVec.toNat_ofInt]
  simp only [IntKind.wrap, IntKind.bits, IntKind.signed]
  simp; omega
theorem wrap_u8_bv (n : Int) : IntKind.u8.wrap n = ((BitVec.ofInt 8 n).toNat : Int) := by
  rw [BitVec.toNat_ofInt]
  simp only [IntKind.wrap, IntKind.bits, IntKind.signed]
  simp; omega
theorem cI64 (n : Int) (h : -9223372036854775808 ≤ n ∧ n ≤ 9223372036854775807) : Value.int .i64 n = I64 (BitVec.ofInt 64 n) := by
  show Value.int .i64 n = Value.int .i64 (BitVec.ofInt 64 n).toInt
  rw [← wrap_i64_bv, IntWalk.i64_in _ (by omega)]
theorem eqGuard_int (op : BinOp) (t : TypeId) (x y : Operand) (k k' : IntKind) (a b : Int) {P : Program} (w : World) : (eqGuard op t x y (.int k a) (.int k' b)).run P w = .ok () w := by
  unfold eqGuard; cases op <;> simp [Sem.run_pure]
theorem eqGuard_not (op : BinOp) (t : TypeId) (x y : Operand) (vx vy : Value) {P : Program} (w : World) (h1 : op ≠ .eql) (h2 : op ≠ .neq) : (eqGuard op t x y vx vy).run P w = .ok () w := by
  unfold eqGuard; cases op <;> simp_all [Sem.run_pure]
section
variable {P : Program} {t : TypeId}
theorem BinR.of_int {op : BinOp} {k k' : IntKind} {a b : Int} {v : Value} (h : ∀ w, (binOp op t (.int k a) (.int k' b)).run P w = .ok v w) : BinR P op t (.int k a) (.int k' b) v := by
  intro x y w
  rw [Sem.run_bind, eqGuard_int]
  exact h w
/-! #### integers -/
theorem BinR.add {k : IntKind} {a b : Int} : BinR P .add t (.int k a) (.int k b) (.int k (k.wrap (a + b))) := .of_int fun w => by simp [binOp, Op.intArith]
theorem BinR.sub {k : IntKind} {a b : Int} : BinR P .sub t (.int k a) (.int k b) (.int k (k.wrap (a - b))) := .of_int fun w => by simp [binOp, Op.intArith]
theorem BinR.mul {k : IntKind} {a b : Int} : BinR P .mul t (.int k a) (.int k b) (.int k (k.wrap (a * b))) := .of_int fun w => by simp [binOp, Op.intArith]
theorem BinR.addI {a b : Int} (h : -9223372036854775808 ≤ a + b ∧ a + b ≤ 9223372036854775807) : BinR P .add t (.int .i64 a) (.int .i64 b) (.int .i64 (a + b)) := by
  have := BinR.add (P := P) (t := t) (k := .i64) (a := a) (b := b)
  rwa [IntWalk.i64_in _ (by omega)] at this
theorem BinR.subI {a b : Int} (h : -9223372036854775808 ≤ a - b ∧ a - b ≤ 9223372036854775807) : BinR P .sub t (.int .i64 a) (.int .i64 b) (.int .i64 (a - b)) := by
  have := BinR.sub (P := P) (t := t) (k := .i64) (a := a) (b := b)
  rwa [IntWalk.i64_in _ (by omega)] at this
theorem BinR.mulI {a b : Int} (h : -9223372036854775808 ≤ a * b ∧ a * b ≤ 9223372036854775807) : BinR P .mul t (.int .i64 a) (.int .i64 b) (.int .i64 (a * b)) := by
  have := BinR.mul (P := P) (t := t) (k := .i64) (a := a) (b := b)
  rwa [IntWalk.i64_in _ (by omega)] at this
/-- Counters. -/
theorem BinR.succN {k : Nat} (h : k < 9223372036854775807) : BinR P .add t (IN k) (.int .i64 1) (IN (k + 1)) := by
  have := BinR.addI (P := P) (t := t) (a := (k : Int)) (b := 1) (by omega)
  have e : ((k + 1 : Nat) : Int) = (k : Int) + 1 := by omega
  show BinR P .add t (.int .i64 (k : Int)) (.int .i64 1) (.int .i64 ((k + 1 : Nat) : Int))
  rw [e]; exact this
theorem BinR.lss {k : IntKind} {a b : Int} : BinR P .lss t (.int k a) (.int k b) (.bool (decide (a < b))) := .of_int fun w => by simp [binOp, Op.intCmp]
theorem BinR.leq {k : IntKind} {a b : Int} : BinR P .leq t (.int k a) (.int k b) (.bool (decide (a ≤ b))) := .of_int fun w => by simp [binOp, Op.intCmp]
theorem BinR.gtr {k : IntKind} {a b : Int} : BinR P .gtr t (.int k a) (.int k b) (.bool (decide (b < a))) := .of_int fun w => by simp [binOp, Op.intCmp]
theorem BinR.geq {k : IntKind} {a b : Int} : BinR P .geq t (.int k a) (.int k b) (.bool (decide (b ≤ a))) := .of_int fun w => by simp [binOp, Op.intCmp]
theorem BinR.eql {k : IntKind} {a b : Int} : BinR P .eql t (.int k a) (.int k b) (.bool (a == b)) := .of_int fun w => by simp [binOp, Op.intCmp]
theorem BinR.neq {k : IntKind} {a b : Int} : BinR P .neq t (.int k a) (.int k b) (.bool (a != b)) := .of_int fun w => by simp [binOp, Op.intCmp]
theorem BinR.quoI {a b : Int} (ha : 0 ≤ a) (hb : 0 < b) (hx : a ≤ 9223372036854775807) : BinR P .quo t (.int .i64 a) (.int .i64 b) (.int .i64 (a / b)) := .of_int fun w => by
  have e : a.tdiv b = a / b := Int.tdiv_eq_ediv_of_nonneg ha
  have h1 : 0 ≤ a / b := Int.ediv_nonneg ha (by omega)
  have h2 : a / b ≤ a := Int.ediv_le_self b ha
  simp [binOp, Op.intDiv, show b ≠ 0 by omega, e, IntWalk.i64_in _ (⟨by omega, by omega⟩ : -9223372036854775808 ≤ a / b ∧ a / b ≤ 9223372036854775807)]
theorem BinR.remI {a b : Int} (ha : 0 ≤ a) (hb : b ≠ 0) : BinR P .rem t (.int .i64 a) (.int .i64 b) (.int .i64 (a % b)) := .of_int fun w => by
  simp [binOp, Op.intDiv, hb, Int.tmod_eq_emod_of_nonneg ha]
/-! #### bit vectors -/
theorem toInt_ofInt_id (x : BitVec 64) : BitVec.ofInt 64 x.toInt = x := by simp
theorem ofInt_toNat_id {w : Nat} (x : BitVec w) : BitVec.ofInt w (x.toNat : Int) = x := by
  apply BitVec.eq_of_toNat_eq; simp
theorem BinR.add64 {x y : BitVec 64} : BinR P .add t (I64 x) (I64 y) (I64 (x + y)) := by
  have := BinR.add (P := P) (t := t) (k := .i64) (a := x.toInt) (b := y.toInt)
  rwa [wrap_i64_bv, BitVec.ofInt_add, toInt_ofInt_id, toInt_ofInt_id] at this
theorem BinR.sub64 {x y : BitVec 64} : BinR P .sub t (I64 x) (I64 y) (I64 (x - y)) := by
  have := BinR.sub (P := P) (t := t) (k := .i64) (a := x.toInt) (b := y.toInt)
  rw [wrap_i64_bv] at this
  have e : BitVec.ofInt 64 (x.toInt - y.toInt) = x - y := by rw [Int.sub_eq_add_neg, BitVec.ofInt_add, BitVec.ofInt_neg]; simp [BitVec.sub_eq_add_neg]
  rwa [e] at this
theorem BinR.mul64 {x y : BitVec 64} : BinR P .mul t (I64 x) (I64 y) (I64 (x * y)) := by
  have := BinR.mul (P := P) (t := t) (k := .i64) (a := x.toInt) (b := y.toInt)
  rwa [wrap_i64_bv, BitVec.ofInt_mul, toInt_ofInt_id, toInt_ofInt_id] at this
theorem BinR.addU64 {x y : BitVec 64} : BinR P .add t (U64 x) (U64 y) (U64 (x + y)) := by
  have := BinR.add (P := P) (t := t) (k := .u64) (a := x.toNat) (b := y.toNat)
  rwa [wrap_u64_bv, BitVec.ofInt_add, ofInt_toNat_id, ofInt_toNat_id] at this
theorem BinR.subU64 {x y : BitVec 64} : BinR P .sub t (U64 x) (U64 y) (U64 (x - y)) := by
  have := BinR.sub (P := P) (t := t) (k := .u64) (a := x.toNat) (b := y.toNat)
  rw [wrap_u64_bv] at this
  have e : BitVec.ofInt 64 ((x.toNat : Int) - y.toNat) = x - y := by rw [Int.sub_eq_add_neg, BitVec.ofInt_add, BitVec.ofInt_neg, ofInt_toNat_id, ofInt_toNat_id, BitVec.sub_eq_add_neg]
  rwa [e] at this
theorem BinR.mulU64 {x y : BitVec 64} : BinR P .mul t (U64 x) (U64 y) (U64 (x * y)) := by
  have := BinR.mul (P := P) (t := t) (k := .u64) (a := x.toNat) (b := y.toNat)
  rwa [wrap_u64_bv, BitVec.ofInt_mul, ofInt_toNat_id, ofInt_toNat_id] at this
theorem BinR.and64 {x y : BitVec 64} : BinR P .and t (I64 x) (I64 y) (I64 (x &&& y)) := .of_int fun w => by
  have e : Op.intBits .and .i64 x.toInt y.toInt = pure (.int .i64 (IntKind.i64.wrap ((x &&& y).toNat : Int))) := by unfold Op.intBits; simp only [IntKind.bits, toInt_ofInt_id]; rfl
  simp only [binOp, ne_eq, not_true_eq_false, if_false, e, wrap_i64_bv, ofInt_toNat_id, Sem.run_pure]
theorem BinR.or64 {x y : BitVec 64} : BinR P .or t (I64 x) (I64 y) (I64 (x ||| y)) := .of_int fun w => by
  have e : Op.intBits .or .i64 x.toInt y.toInt = pure (.int .i64 (IntKind.i64.wrap ((x ||| y).toNat : Int))) := by unfold Op.intBits; simp only [IntKind.bits, toInt_ofInt_id]; rfl
  simp only [binOp, ne_eq, not_true_eq_false, if_false, e, wrap_i64_bv, ofInt_toNat_id, Sem.run_pure]
theorem BinR.xor64 {x y : BitVec 64} : BinR P .xor t (I64 x) (I64 y) (I64 (x ^^^ y)) := .of_int fun w => by
  have e : Op.intBits .xor .i64 x.toInt y.toInt = pure (.int .i64 (IntKind.i64.wrap ((x ^^^ y).toNat : Int))) := by unfold Op.intBits; simp only [IntKind.bits, toInt_ofInt_id]; rfl
  simp only [binOp, ne_eq, not_true_eq_false, if_false, e, wrap_i64_bv, ofInt_toNat_id, Sem.run_pure]
theorem BinR.andU64 {x y : BitVec 64} : BinR P .and t (U64 x) (U64 y) (U64 (x &&& y)) := .of_int fun w => by
  have e : Op.intBits .and .u64 (x.toNat : Int) (y.toNat : Int) = pure (.int .u64 (IntKind.u64.wrap ((x &&& y).toNat : Int))) := by unfold Op.intBits; simp only [IntKind.bits, ofInt_toNat_id]; rfl
  simp only [binOp, ne_eq, not_true_eq_false, if_false, e, wrap_u64_bv, ofInt_toNat_id, Sem.run_pure]
theorem BinR.orU64 {x y : BitVec 64} : BinR P .or t (U64 x) (U64 y) (U64 (x ||| y)) := .of_int fun w => by
  have e : Op.intBits .or .u64 (x.toNat : Int) (y.toNat : Int) = pure (.int .u64 (IntKind.u64.wrap ((x ||| y).toNat : Int))) := by unfold Op.intBits; simp only [IntKind.bits, ofInt_toNat_id]; rfl
  simp only [binOp, ne_eq, not_true_eq_false, if_false, e, wrap_u64_bv, ofInt_toNat_id, Sem.run_pure]
theorem BinR.xorU64 {x y : BitVec 64} : BinR P .xor t (U64 x) (U64 y) (U64 (x ^^^ y)) := .of_int fun w => by
  have e : Op.intBits .xor .u64 (x.toNat : Int) (y.toNat : Int) = pure (.int .u64 (IntKind.u64.wrap ((x ^^^ y).toNat : Int))) := by unfold Op.intBits; simp only [IntKind.bits, ofInt_toNat_id]; rfl
  simp only [binOp, ne_eq, not_true_eq_false, if_false, e, wrap_u64_bv, ofInt_toNat_id, Sem.run_pure]
theorem shl_min (x : BitVec 64) (s : Nat) : BitVec.ofInt 64 (x.toInt * 2 ^ min s 64) = x <<< s := by
  rw [BitVec.ofInt_mul, toInt_ofInt_id]
  have e : BitVec.ofInt 64 (2 ^ min s 64 : Int) = BitVec.ofNat 64 (2 ^ min s 64) := by
    have : (2 ^ min s 64 : Int) = ((2 ^ min s 64 : Nat) : Int) := by norm_cast
    rw [this, BitVec.ofInt_natCast]
  rw [e]
  apply BitVec.eq_of_toNat_eq
  simp only [BitVec.toNat_mul, BitVec.toNat_ofNat, BitVec.toNat_shiftLeft, Nat.shiftLeft_eq, Nat.mul_mod_mod]
  by_cases h : s ≤ 64
  · rw [Nat.min_eq_left h]
  · rw [Nat.min_eq_right (by omega)]
    have : x.toNat * 2 ^ s = x.toNat * 2 ^ (s - 64) * 2 ^ 64 := by rw [Nat.mul_assoc, ← Nat.pow_add]; congr 2; omega
    rw [this]; simp
theorem shlU_min (x : BitVec 64) (s : Nat) : BitVec.ofInt 64 ((x.toNat : Int) * 2 ^ min s 64) = x <<< s := by
  have h := shl_min x s
  rw [BitVec.ofInt_mul, toInt_ofInt_id] at h
  rw [BitVec.ofInt_mul, ofInt_toNat_id, h]
theorem BinR.shl64 {x : BitVec 64} {yk : IntKind} {s : Nat} : BinR P .shl t (I64 x) (.int yk (s : Int)) (I64 (x <<< s)) := .of_int fun w => by
  have h0 : ¬ ((s : Int) < 0) := by omega
  simp only [binOp, Op.shift, if_neg h0, Int.toNat_natCast, IntKind.bits, Sem.run_pure, wrap_i64_bv, shl_min]
theorem BinR.shlU64 {x : BitVec 64} {yk : IntKind} {s : Nat} : BinR P .shl t (U64 x) (.int yk (s : Int)) (U64 (x <<< s)) := .of_int fun w => by
  have h0 : ¬ ((s : Int) < 0) := by omega
  simp only [binOp, Op.shift, if_neg h0, Int.toNat_natCast, IntKind.bits, Sem.run_pure, wrap_u64_bv, shlU_min]
theorem BinR.shrU64 {x : BitVec 64} {yk : IntKind} {s : Nat} : BinR P .shr t (U64 x) (.int yk (s : Int)) (U64 (x >>> s)) := .of_int fun w => by
  have h0 : ¬ ((s : Int) < 0) := by omega
  have e : (x.toNat : Int).fdiv (2 ^ min s 64) = ((x >>> s).toNat : Int) := by
    rw [Int.fdiv_eq_ediv_of_nonneg _ (Int.pow_nonneg (by decide)), BitVec.toNat_ushiftRight, Nat.shiftRight_eq_div_pow]
    by_cases h : s ≤ 64
    · rw [Nat.min_eq_left h]; norm_cast
    · rw [Nat.min_eq_right (by omega)]
      have h1 : x.toNat / 2 ^ s = 0 := Nat.div_eq_of_lt (Nat.lt_of_lt_of_le x.isLt (Nat.pow_le_pow_right (by decide) (by omega)))
      rw [h1]
      have := x.isLt
      omega
  simp only [binOp, Op.shift, if_neg h0, Int.toNat_natCast, IntKind.bits, Sem.run_pure, e]
theorem BinR.shr64 {x : BitVec 64} {yk : IntKind} {s : Nat} : BinR P .shr t (I64 x) (.int yk (s : Int)) (I64 (x.sshiftRight s)) := .of_int fun w => by
  have h0 : ¬ ((s : Int) < 0) := by omega
  have e : x.toInt.fdiv (2 ^ min s 64) = (x.sshiftRight s).toInt := by
    rw [Int.fdiv_eq_ediv_of_nonneg _ (Int.pow_nonneg (by decide)), BitVec.toInt_sshiftRight, Int.shiftRight_eq_div_pow]
    by_cases h : s ≤ 64
    · rw [Nat.min_eq_left h]; norm_cast
    · rw [Nat.min_eq_right (by omega)]
      have hx := BitVec.two_mul_toInt_lt (x := x)
      have hy := BitVec.le_two_mul_toInt (x := x)
      have hp : (2 : Int) ^ 64 ≤ ((2 ^ s : Nat) : Int) := by
        have := Nat.pow_le_pow_right (n := 2) (by decide) (show 64 ≤ s by omega)
        exact_mod_cast this
      rcases Int.lt_or_le x.toInt 0 with hn | hn
      · have e1 : x.toInt / 2 ^ 64 = -1 := by omega
        have e2 : x.toInt / ((2 ^ s : Nat) : Int) = -1 := by
          rw [Int.ediv_eq_iff_of_pos (by omega)]; omega
        rw [e1, e2]
      · have e1 : x.toInt / 2 ^ 64 = 0 := by omega
        rw [e1, Int.ediv_eq_zero_of_lt hn (by omega)]
  simp only [binOp, Op.shift, if_neg h0, Int.toNat_natCast, IntKind.bits, Sem.run_pure, e]
theorem BinR.lss64 {x y : BitVec 64} : BinR P .lss t (I64 x) (I64 y) (.bool (x.slt y)) := by
  have := BinR.lss (P := P) (t := t) (k := .i64) (a := x.toInt) (b := y.toInt); rwa [← BitVec.slt_eq_decide] at this
theorem BinR.gtr64 {x y : BitVec 64} : BinR P .gtr t (I64 x) (I64 y) (.bool (y.slt x)) := by
  have := BinR.gtr (P := P) (t := t) (k := .i64) (a := x.toInt) (b := y.toInt); rwa [← BitVec.slt_eq_decide] at this
theorem BinR.lssU64 {x y : BitVec 64} : BinR P .lss t (U64 x) (U64 y) (.bool (x.ult y)) := by
  have := BinR.lss (P := P) (t := t) (k := .u64) (a := x.toNat) (b := y.toNat)
  have e : decide ((x.toNat : Int) < (y.toNat : Int)) = x.ult y := by simp [BitVec.ult]
  rwa [e] at this
theorem eqB {x y : BitVec 64} : (x.toInt == y.toInt) = (x == y) := by
  rw [Bool.eq_iff_iff, beq_iff_eq, beq_iff_eq]; exact ⟨BitVec.eq_of_toInt_eq, fun h => by rw [h]⟩
theorem eqUB {w : Nat} {x y : BitVec w} : ((x.toNat : Int) == (y.toNat : Int)) = (x == y) := by
  rw [Bool.eq_iff_iff, beq_iff_eq, beq_iff_eq]; exact ⟨fun h => BitVec.eq_of_toNat_eq (by omega), fun h => by rw [h]⟩
theorem BinR.eql64 {x y : BitVec 64} : BinR P .eql t (I64 x) (I64 y) (.bool (x == y)) := by
  have := BinR.eql (P := P) (t := t) (k := .i64) (a := x.toInt) (b := y.toInt); rwa [eqB] at this
theorem BinR.neq64 {x y : BitVec 64} : BinR P .neq t (I64 x) (I64 y) (.bool (x != y)) := by
  have := BinR.neq (P := P) (t := t) (k := .i64) (a := x.toInt) (b := y.toInt); rwa [bne, eqB, ← bne] at this
theorem BinR.eqlU64 {x y : BitVec 64} : BinR P .eql t (U64 x) (U64 y) (.bool (x == y)) := by
  have := BinR.eql (P := P) (t := t) (k := .u64) (a := x.toNat) (b := y.toNat); rwa [eqUB] at this
theorem BinR.neqU64 {x y : BitVec 64} : BinR P .neq t (U64 x) (U64 y) (.bool (x != y)) := by
  have := BinR.neq (P := P) (t := t) (k := .u64) (a := x.toNat) (b := y.toNat); rwa [bne, eqUB, ← bne] at this
theorem BinR.leq64 {x y : BitVec 64} : BinR P .leq t (I64 x) (I64 y) (.bool (x.sle y)) := by
  have := BinR.leq (P := P) (t := t) (k := .i64) (a := x.toInt) (b := y.toInt); rwa [← BitVec.sle_eq_decide] at this
theorem BinR.geq64 {x y : BitVec 64} : BinR P .geq t (I64 x) (I64 y) (.bool (y.sle x)) := by
  have := BinR.geq (P := P) (t := t) (k := .i64) (a := x.toInt) (b := y.toInt); rwa [← BitVec.sle_eq_decide] at this
theorem BinR.gtrU64 {x y : BitVec 64} : BinR P .gtr t (U64 x) (U64 y) (.bool (y.ult x)) := by
  have := BinR.gtr (P := P) (t := t) (k := .u64) (a := x.toNat) (b := y.toNat)
  have e : decide ((y.toNat : Int) < (x.toNat : Int)) = y.ult x := by simp [BitVec.ult]
  rwa [e] at this
theorem BinR.quo64 {x y : BitVec 64} (h : y ≠ 0#64) : BinR P .quo t (I64 x) (I64 y) (I64 (x.sdiv y)) := .of_int fun w => by
  have h0 : y.toInt ≠ 0 := fun e => h (BitVec.eq_of_toInt_eq (by simpa using e))
  simp only [binOp, ne_eq, not_true_eq_false, if_false, Op.intDiv, if_neg h0, Sem.run_pure, wrap_i64_bv]
  have e : BitVec.ofInt 64 (x.toInt.tdiv y.toInt) = x.sdiv y := by apply BitVec.eq_of_toInt_eq; rw [BitVec.toInt_ofInt, BitVec.toInt_sdiv]
  rw [e]
theorem BinR.rem64 {x y : BitVec 64} (h : y ≠ 0#64) : BinR P .rem t (I64 x) (I64 y) (I64 (x.srem y)) := .of_int fun w => by
  have h0 : y.toInt ≠ 0 := fun e => h (BitVec.eq_of_toInt_eq (by simpa using e))
  simp only [binOp, ne_eq, not_true_eq_false, if_false, Op.intDiv, if_neg h0, Sem.run_pure]
  show _ = Result.ok (Value.int IntKind.i64 (x.srem y).toInt) w
  rw [BitVec.toInt_srem]
theorem BinR.quoU64 {x y : BitVec 64} (h : y ≠ 0#64) : BinR P .quo t (U64 x) (U64 y) (U64 (x / y)) := .of_int fun w => by
  have h0 : (y.toNat : Int) ≠ 0 := fun e => h (BitVec.eq_of_toNat_eq (by simpa using e))
  simp only [binOp, ne_eq, not_true_eq_false, if_false, Op.intDiv, if_neg h0, Sem.run_pure, wrap_u64_bv]
  have e : BitVec.ofInt 64 ((x.toNat : Int).tdiv y.toNat) = x / y := by
    rw [Int.tdiv_eq_ediv_of_nonneg (by omega)]
    have : ((x.toNat : Int) / (y.toNat : Int)) = ((x / y).toNat : Int) := by rw [BitVec.toNat_udiv]; norm_cast
    rw [this, ofInt_toNat_id]
  rw [e]
theorem BinR.remU64 {x y : BitVec 64} (h : y ≠ 0#64) : BinR P .rem t (U64 x) (U64 y) (U64 (x % y)) := .of_int fun w => by
  have h0 : (y.toNat : Int) ≠ 0 := fun e => h (BitVec.eq_of_toNat_eq (by simpa using e))
  simp only [binOp, ne_eq, not_true_eq_false, if_false, Op.intDiv, if_neg h0, Sem.run_pure]
  have e : (x.toNat : Int).tmod y.toNat = ((x % y).toNat : Int) := by rw [Int.tmod_eq_emod_of_nonneg (by omega), BitVec.toNat_umod]; norm_cast
  rw [e]
theorem BinR.shl64z {x z : BitVec 64} (h : z.toInt = (z.toNat : Int)) : BinR P .shl t (I64 x) (I64 z) (I64 (x <<< z.toNat)) := by
  have := BinR.shl64 (P := P) (t := t) (x := x) (yk := .i64) (s := z.toNat); rwa [← h] at this
theorem BinR.shr64z {x z : BitVec 64} (h : z.toInt = (z.toNat : Int)) : BinR P .shr t (I64 x) (I64 z) (I64 (x.sshiftRight z.toNat)) := by
  have := BinR.shr64 (P := P) (t := t) (x := x) (yk := .i64) (s := z.toNat); rwa [← h] at this
theorem BinR.shrU64z {x z : BitVec 64} (h : z.toInt = (z.toNat : Int)) : BinR P .shr t (U64 x) (I64 z) (U64 (x >>> z.toNat)) := by
  have := BinR.shrU64 (P := P) (t := t) (x := x) (yk := .i64) (s := z.toNat); rwa [← h] at this
theorem BinR.eqlB {a b : Bool} (h : P.underlying t = some .bool) : BinR P .eql t (.bool a) (.bool b) (.bool (a == b)) := fun x y w => by
  simp only [eqGuard, binOp, Sem.run_bind, run_equal_bool (h := h), Sem.run_pure, Result.andThen]; simp
theorem BinR.neqB {a b : Bool} (h : P.underlying t = some .bool) : BinR P .neq t (.bool a) (.bool b) (.bool (a != b)) := fun x y w => by
  simp only [eqGuard, binOp, Sem.run_bind, run_equal_bool (h := h), Sem.run_pure, Result.andThen]; simp [bne]
theorem equalIn_funcnil (d : Nat) {ps rs : Array TypeId} {b : Bool} (fn : Fn) (u v : Array Value) (h : P.underlying t = some (.func ps rs b)) (w : World) : (Op.equalIn (d + 1) t (.func fn u v) .nilFunc).run P w = .ok false w := by
  simp [Op.equalIn, run_underlying h]
theorem equalIn_nilnil (d : Nat) {ps rs : Array TypeId} {b : Bool} (h : P.underlying t = some (.func ps rs b)) (w : World) : (Op.equalIn (d + 1) t .nilFunc .nilFunc).run P w = .ok true w := by
  simp [Op.equalIn, run_underlying h]
theorem BinR.eqlFnil {ps rs : Array TypeId} {b : Bool} {fn : Fn} {u v : Array Value} (h : P.underlying t = some (.func ps rs b)) : BinR P .eql t (.func fn u v) .nilFunc (.bool false) := fun x y w => by
  have e : (Op.equal t (.func fn u v) .nilFunc).run P w = .ok false w := equalIn_funcnil 9999 fn u v h w
  simp only [eqGuard, binOp, Sem.run_bind, Sem.run_pure, Result.andThen]; simp [e]
theorem BinR.neqFnil {ps rs : Array TypeId} {b : Bool} {fn : Fn} {u v : Array Value} (h : P.underlying t = some (.func ps rs b)) : BinR P .neq t (.func fn u v) .nilFunc (.bool true) := fun x y w => by
  have e : (Op.equal t (.func fn u v) .nilFunc).run P w = .ok false w := equalIn_funcnil 9999 fn u v h w
  simp only [eqGuard, binOp, Sem.run_bind, Sem.run_pure, Result.andThen]; simp [e]
theorem BinR.eqlNil {ps rs : Array TypeId} {b : Bool} (h : P.underlying t = some (.func ps rs b)) : BinR P .eql t .nilFunc .nilFunc (.bool true) := fun x y w => by
  have e : (Op.equal t .nilFunc .nilFunc).run P w = .ok true w := equalIn_nilnil 9999 h w
  simp only [eqGuard, binOp, Sem.run_bind, Sem.run_pure, Result.andThen]; simp [e]
theorem BinR.neqNil {ps rs : Array TypeId} {b : Bool} (h : P.underlying t = some (.func ps rs b)) : BinR P .neq t .nilFunc .nilFunc (.bool false) := fun x y w => by
  have e : (Op.equal t .nilFunc .nilFunc).run P w = .ok true w := equalIn_nilnil 9999 h w
  simp only [eqGuard, binOp, Sem.run_bind, Sem.run_pure, Result.andThen]; simp [e]
theorem UnR.not {b : Bool} : UnR P .not (.bool b) (.bool !b) := fun w => by simp [Op.unary]
theorem UnR.com64 {x : BitVec 64} : UnR P .xor (I64 x) (I64 (~~~x)) := fun w => by
  have e : Op.intBits .xor .i64 (-1) x.toInt = pure (.int .i64 (IntKind.i64.wrap ((~~~x).toNat : Int))) := by
    unfold Op.intBits
    simp only [IntKind.bits, toInt_ofInt_id]
    have h : BitVec.ofInt 64 (-1) ^^^ x = ~~~x := by
      have : BitVec.ofInt 64 (-1) = BitVec.allOnes 64 := by decide
      rw [this, BitVec.allOnes_xor]
    exact congrArg (fun z : BitVec 64 => (pure (Value.int .i64 (IntKind.i64.wrap (z.toNat : Int))) : Sem Value)) h
  simp only [Op.unary, IntKind.signed, if_true, e, wrap_i64_bv, ofInt_toNat_id, Sem.run_pure]
theorem UnR.neg64 {x : BitVec 64} : UnR P .neg (I64 x) (I64 (-x)) := fun w => by
  simp only [Op.unary, Op.intArith]; simp [wrap_i64_bv, BitVec.ofInt_neg]
theorem UnR.negU64 {x : BitVec 64} : UnR P .neg (U64 x) (U64 (-x)) := fun w => by
  simp only [Op.unary, Op.intArith, Sem.run_pure, wrap_u64_bv]
  have e : BitVec.ofInt 64 (0 - (x.toNat : Int)) = -x := by rw [Int.zero_sub, BitVec.ofInt_neg, ofInt_toNat_id]
  rw [e]
theorem ConvR.int {s u : TypeId} {k k' : IntKind} {a : Int} {td : TypeDesc} (h1 : P.underlying s = some td) (h2 : P.underlying u = some (.int k')) : ConvR P s u (.int k a) (.int k' (k'.wrap a)) := fun w => by
  simp [convert, run_underlying h1, run_underlying h2, Conv.intToInt]
theorem ConvR.i64u64 {s u : TypeId} {x : BitVec 64} {td : TypeDesc} (h1 : P.underlying s = some td) (h2 : P.underlying u = some (.int .u64)) : ConvR P s u (I64 x) (U64 x) := by
  have := ConvR.int (k := .i64) (a := x.toInt) h1 h2; rwa [wrap_u64_bv, toInt_ofInt_id] at this
theorem ConvR.u64i64 {s u : TypeId} {x : BitVec 64} {td : TypeDesc} (h1 : P.underlying s = some td) (h2 : P.underlying u = some (.int .i64)) : ConvR P s u (U64 x) (I64 x) := by
  have := ConvR.int (k := .u64) (a := x.toNat) h1 h2; rwa [wrap_i64_bv, ofInt_toNat_id] at this
theorem ConvR.toI {s u : TypeId} {k : IntKind} {a : Int} {td : TypeDesc} (h1 : P.underlying s = some td) (h2 : P.underlying u = some (.int .i64)) (h : -9223372036854775808 ≤ a ∧ a ≤ 9223372036854775807) : ConvR P s u (.int k a) (.int .i64 a) := by
  have := ConvR.int (k := k) (a := a) h1 h2; rwa [IntWalk.i64_in _ (by omega)] at this
end
end Go.Ux
end
section
/- The walking engine, memory: new blocks, calls, slices, append. -/
namespace Go.Ux
open Go
/-! ### Calls -/
def callable (P : Program) (g : Nat) : Bool :=
  match P.funcs[g]? with
  | some fn => !(fn.name == "runtime.NumGoroutine") && fn.body.isSome
  | none => false
theorem callable_run {P : Program} {g : Nat} (h : callable P g = true) (args : Array Value) (w : World) : (callFunc g args).run P w = .ok (.enter g args) w := by
  unfold callable at h
  cases hf : P.funcs[g]? with
  | none => rw [hf] at h; cases h
  | some fn =>
    rw [hf] at h
    simp only [Bool.and_eq_true, Bool.not_eq_true'] at h
    obtain ⟨h1, h2⟩ := h
    have h3 : ¬ fn.body = none := by intro hb; simp [hb] at h2
    have h1' : ¬ fn.name = "runtime.NumGoroutine" := by simpa using h1
    simp [callFunc, program, Sem.run, hf, h1', h3]
section ops
variable {P : Program} {ops : Array Oper} {l : List Oper} {n : Nat} {f : Fr} {w : World} {Q : Exit → Fr → World → Prop}
variable {d : Nat} {ty : TypeId} {pos : String} {aft : Array Edge}
theorem WL.call {g : Nat} {args : Array Operand} {ats : Array TypeId} {vs : List Value} {S : Value → World → Prop} (hcal : callable P g = true) (ha : args.toList.map (ev f) = vs) (hd : decide (d < n) = true)
    (c : CallsR P g vs.toArray w S) (k : ∀ v w', S v w' → WL P ops l n (upd f d v) w' Q) :
    WL P ops (⟨some d, .call { callee := .value (.func g), args := args, argTypes := ats }, ty, pos, aft, none⟩ :: l) n f w Q := by
  refine WL.enter (g := g) (args := vs.toArray) (S := S) rfl hd ?_ c k
  have hm : args.map (ev f) = vs.toArray := by apply Array.ext'; simp [ha]
  simp [execOp, resolve, ev, Deferred.ofValue, invoke, hm, callable_run hcal]
/-- A call of a function value. -/
theorem WL.callV {g : Nat} {x : Operand} {fs cs : Array Value} {args : Array Operand} {ats : Array TypeId} {vs : List Value} {S : Value → World → Prop} (hx : ev f x = .func (.func g) fs cs) (hcal : callable P g = true) (ha : fs.toList ++ args.toList.map (ev f) ++ cs.toList = vs) (hd : decide (d < n) = true)
    (c : CallsR P g vs.toArray w S) (k : ∀ v w', S v w' → WL P ops l n (upd f d v) w' Q) :
    WL P ops (⟨some d, .call { callee := .value x, args := args, argTypes := ats }, ty, pos, aft, none⟩ :: l) n f w Q := by
  refine WL.enter (g := g) (args := vs.toArray) (S := S) rfl hd ?_ c k
  have hm : fs ++ args.map (ev f) ++ cs = vs.toArray := by apply Array.ext'; simp [← ha]
  simp [execOp, resolve, hx, Deferred.ofValue, invoke, hm, callable_run hcal]
theorem argsL1 {f : Fr} {x1 : Operand} {v1 : Value} (h1 : ev f x1 = v1) : [x1].map (ev f) = [v1] := by simp [h1]
theorem argsL2 {f : Fr} {x1 x2 : Operand} {v1 v2 : Value} (h1 : ev f x1 = v1) (h2 : ev f x2 = v2) : [x1, x2].map (ev f) = [v1, v2] := by simp [h1, h2]
theorem argsL3 {f : Fr} {x1 x2 x3 : Operand} {v1 v2 v3 : Value} (h1 : ev f x1 = v1) (h2 : ev f x2 = v2) (h3 : ev f x3 = v3) : [x1, x2, x3].map (ev f) = [v1, v2, v3] := by simp [h1, h2, h3]
theorem argsL4 {f : Fr} {x1 x2 x3 x4 : Operand} {v1 v2 v3 v4 : Value} (h1 : ev f x1 = v1) (h2 : ev f x2 = v2) (h3 : ev f x3 = v3) (h4 : ev f x4 = v4) : [x1, x2, x3, x4].map (ev f) = [v1, v2, v3, v4] := by simp [h1, h2, h3, h4]
theorem yf_bool {ops : Array Oper} {f : Fr} {j d : Nat} {b b' : Bool} (hd : (ops[j]?).bind (·.dst) = some d) (hf : f d = .bool b) (hb : b = b') : yf ops f j = some b' := by
  unfold yf; rw [hd]; simp only [hf, hb]
theorem BinR.toB {P : Program} {op : BinOp} {t : TypeId} {a b : Value} {c d : Bool} (h : BinR P op t a b (.bool c)) (e : c = d) : BinR P op t a b (.bool d) := e ▸ h
theorem pick_bool (b p q : Bool) : (if b then Value.bool p else Value.bool q) = .bool (bif b then p else q) := by cases b <;> rfl
/-! ### New blocks -/
theorem WL.box {t : Nat} {x : Operand} {v : Value} (hx : ev f x = v) (hd : decide (d < n) = true) (k : ∀ b w', New w w' b v.cells t → WL P ops l n (upd f d (ptr b 0)) w' Q) :
    WL P ops (⟨some d, .box t x, ty, pos, aft, none⟩ :: l) n f w Q := by
  refine WL.val rfl hd (v := ptr w.heap.size 0) (w' := w.alloc (.cells v.cells t)) ?_ (k _ _ (New.mk' w _ _))
  simp [execOp, hx, Instr.box, newVar, newRow, go_sem, Result.andThen]
def zeroT (P : Program) (t : Nat) : Option (Array Value) := (P.info? t).bind fun i => i.zero.map Value.cells
theorem zeroT_run {P : Program} {t : Nat} {cs : Array Value} (h : zeroT P t = some cs) (w : World) : ∃ z : Value, (zeroValue t).run P w = .ok z w ∧ z.cells = cs := by
  unfold zeroT at h
  obtain ⟨i, hi, h⟩ := Option.bind_eq_some_iff.1 h
  obtain ⟨z, hz, rfl⟩ := Option.map_eq_some_iff.1 h
  exact ⟨z, by simp [zeroValue, typeInfo, hi, hz, go_sem], rfl⟩
theorem WL.alloc {t : Nat} {cs : Array Value} (hz : zeroT P t = some cs) (hd : decide (d < n) = true) (k : ∀ b w', New w w' b cs t → WL P ops l n (upd f d (ptr b 0)) w' Q) :
    WL P ops (⟨some d, .alloc t, ty, pos, aft, none⟩ :: l) n f w Q := by
  obtain ⟨z, hr, rfl⟩ := zeroT_run hz w
  refine WL.val rfl hd (v := ptr w.heap.size 0) (w' := w.alloc (.cells z.cells t)) ?_ (k _ _ (New.mk' w _ _))
  simp [execOp, Instr.alloc, hr, newVar, newRow, go_sem, Result.andThen]
/-- Storing a whole value over a whole block. -/
theorem storeCells_all {P : Program} (g : Nat) (t : TypeId) (vs : List Value) (cur : Array Value) (w : World) (hg : Blk w g cur t) (hl : vs.length = cur.size) (h1 : ∀ v ∈ vs, v.oneCell' = true) :
    (storeCells ⟨g, 0, none⟩ vs).run P w = .ok () (w.setRow g vs.toArray) := by
  have h := run_storeCells_at P g 0 t vs 0 cur w hg (by omega) h1
  simpa [List.drop_of_length_le, hl] using h
theorem cells_of_one {v : Value} (h : v.oneCell' = true) : v.cells = #[v] := by cases v <;> simp_all [Value.oneCell', Value.cells]
/-- A local variable with its first value: 'alloc' and 'store' one behind the other. -/
theorem WL.allocStore {t : Nat} {y : Operand} {m : Nat} {z : Array Value} {v : Value} {ty' : TypeId} {pos' : String} {aft' : Array Edge} (hz : zeroT P t = some z) (hzm : z.size = m) (ht : sizeT P t = some m) (hy : ev (upd f d (ptr w.heap.size 0)) y = v)
    (hm : v.cells.size = m) (h1' : v.cells.toList.all (fun u => u.oneCell') = true) (hd : decide (d < n) = true) (k : ∀ b w', New w w' b v.cells t → WL P ops l n (upd f d (ptr b 0)) w' Q) :
    WL P ops (⟨some d, .alloc t, ty, pos, aft, none⟩ :: ⟨none, .store t (.tmp d) y, ty', pos', aft', none⟩ :: l) n f w Q := by
  have h1 : ∀ u ∈ v.cells.toList, u.oneCell' = true := List.all_eq_true.1 h1'
  obtain ⟨z, hr, rfl⟩ := zeroT_run hz w
  refine WL.val rfl hd (v := ptr w.heap.size 0) (w' := w.alloc (.cells z.cells t)) ?_ ?_
  · simp [execOp, Instr.alloc, hr, newVar, newRow, go_sem, Result.andThen]
  · have hb : Blk (w.alloc (.cells z.cells t)) w.heap.size z.cells t := alloc_blk w _ _
    have hst := storeCells_all (P := P) w.heap.size t v.cells.toList z.cells _ hb (by simp; omega) h1
    refine WL.skp rfl rfl (w' := w.alloc (.cells v.cells t)) ?_ (k _ _ (New.mk' w _ _))
    have e : (w.alloc (.cells z.cells t)).setRow w.heap.size v.cells = w.alloc (.cells v.cells t) := by
      simp only [World.setRow, World.alloc]
      congr 1
      apply Array.ext
      · simp
      · intro i h1 h2
        simp only [Array.getElem_modify]
        simp at h1 h2
        by_cases hi : i = w.heap.size
        · subst hi; simp
        · rw [if_neg (by omega), Array.getElem_push_lt (by omega), Array.getElem_push_lt (by omega)]
    simp only [Array.toArray_toList] at hst
    have hx : ev (updO f (some d) (ptr w.heap.size 0)) (.tmp d) = ptr w.heap.size 0 := by simp [ev, updO, upd]
    have hy' : ev (updO f (some d) (ptr w.heap.size 0)) y = v := hy
    simp only [execOp, hx, hy', Instr.storeAt, Instr.sureAddr, storeVar, Sem.run_bind, Sem.run_pure, Result.andThen, sizeT_run ht, hm]
    simp [hst, e]
/-- A whole value stored into a whole block. -/
theorem WL.storeS {t t' : Nat} {x y : Operand} {b m : Nat} {v : Value} {cs : Array Value} (hx : ev f x = ptr b 0) (hy : ev f y = v) (hb : Blk w b cs t') (hcs : cs.size = m) (ht : sizeT P t = some m) (hm : v.cells.size = m) (h1' : v.cells.toList.all (fun u => u.oneCell') = true)
    (k : ∀ w', Mod (· = b) w w' → Blk w' b v.cells t' → w'.heap.size = w.heap.size → WL P ops l n f w' Q) :
    WL P ops (⟨none, .store t x y, ty, pos, aft, none⟩ :: l) n f w Q := by
  have hst := storeCells_all (P := P) b t' v.cells.toList cs _ hb (by simp; omega) (List.all_eq_true.1 h1')
  simp only [Array.toArray_toList] at hst
  refine WL.skp rfl rfl (w' := w.setRow b v.cells) ?_ (k _ ⟨rfl, rfl, rfl, by simp [World.setRow], fun i _ hi => setRow_other w b i _ (by simpa using hi)⟩ (setRow_heap w b cs _ t' _ hb) (by simp [World.setRow]))
  simp only [execOp, hx, hy, Instr.storeAt, Instr.sureAddr, storeVar, Sem.run_bind, Sem.run_pure, Result.andThen, sizeT_run ht, hm]
  simp [hst]
/-- One cell of a block of the call's own. -/
theorem WL.storeB {t t' : Nat} {x y : Operand} {b o : Nat} {v : Value} {cs : Array Value} (hx : ev f x = ptr b o) (hy : ev f y = v) (hv : v.oneCell' = true) (hz : sizeT P t = some 1) (hb : Blk w b cs t') (ho : o < cs.size)
    (k : ∀ w', Mod (· = b) w w' → Blk w' b (cs.setIfInBounds o v) t' → w'.heap.size = w.heap.size → WL P ops l n f w' Q) : WL P ops (⟨none, .store t x y, ty, pos, aft, none⟩ :: l) n f w Q :=
  WL.store1 hx hy hv hz (u := cs[o]) (hb.cell (by simp [ho])) (hb.frozen o) (k _ (setCell_mod w b o v) (setCell_blk hb o v) (by simp [World.setCell]))
/-- An operation whose run is known. -/
theorem WL.run {op : Op} {v : Value} (w' : World) (hr : (execOp (ev f) ⟨some d, op, ty, pos, aft, none⟩).run P w = .ok (.value v) w') (hd : decide (d < n) = true) (k : WL P ops l n (upd f d v) w' Q) :
    WL P ops (⟨some d, op, ty, pos, aft, none⟩ :: l) n f w Q := WL.val rfl hd hr k
theorem WL.build {t : Nat} {ps : Array (Nat × Operand)} {vs : List (Nat × Value)} {v : Value} (hp : ps.toList.map (fun p => (p.1, ev f p.2)) = vs) (hr : ∀ w, (Instr.build t vs.toArray).run P w = .ok v w) (hd : decide (d < n) = true) (k : WL P ops l n (upd f d v) w Q) :
    WL P ops (⟨some d, .build t ps, ty, pos, aft, none⟩ :: l) n f w Q := by
  refine WL.val rfl hd (v := v) (w' := w) ?_ k
  have hm : ps.map (fun p => (p.1, ev f p.2)) = vs.toArray := by apply Array.ext'; simp [hp]
  simp only [execOp, hm, Sem.run_bind, hr, Result.andThen, Sem.run_pure]
theorem WL.buildSlice {t m e : Nat} {ps : Array (Nat × Operand)} {vs : List (Nat × Value)} {cs : Array Value} (hp : ps.toList.map (fun p => (p.1, ev f p.2)) = vs)
    (hr : ∀ w, (Instr.buildSlice t m vs.toArray).run P w = .ok (.slice (some ⟨w.heap.size, 0, none⟩) m m) (w.alloc (.cells cs e))) (hd : decide (d < n) = true)
    (k : ∀ b w', New w w' b cs e → WL P ops l n (upd f d (.slice (some ⟨b, 0, none⟩) m m)) w' Q) :
    WL P ops (⟨some d, .buildSlice t m ps, ty, pos, aft, none⟩ :: l) n f w Q := by
  refine WL.val rfl hd (v := .slice (some ⟨w.heap.size, 0, none⟩) m m) (w' := w.alloc (.cells cs e)) ?_ (k _ _ (New.mk' w _ _))
  have hm : ps.map (fun p => (p.1, ev f p.2)) = vs.toArray := by apply Array.ext'; simp [hp]
  simp only [execOp, hm, Sem.run_bind, hr, Result.andThen, Sem.run_pure]
theorem WL.makeFunc {fn : Fn} {fs cs : Array Operand} {vs us : List Value} (h1 : fs.toList.map (ev f) = vs) (h2 : cs.toList.map (ev f) = us) (hd : decide (d < n) = true) (k : WL P ops l n (upd f d (.func fn vs.toArray us.toArray)) w Q) :
    WL P ops (⟨some d, .makeFunc fn fs cs, ty, pos, aft, none⟩ :: l) n f w Q := by
  refine WL.val rfl hd (v := .func fn vs.toArray us.toArray) (w' := w) ?_ k
  have e1 : fs.map (ev f) = vs.toArray := by apply Array.ext'; simp [h1]
  have e2 : cs.map (ev f) = us.toArray := by apply Array.ext'; simp [h2]
  simp [execOp, Instr.makeFunc, e1, e2, go_sem]
theorem Blk.ne {w w' : World} {b c : Nat} {cs cs' : Array Value} {t t' : TypeId} (h : Blk w b cs t) (k : New w w' c cs' t') : b ≠ c := by
  have := h.lt; have := k.num; omega
theorem Mod.own {w w1 w2 w3 : World} {b : Nat} {cs : Array Value} {t : TypeId} {wb : World} (h : Ext w w1) (k : New w1 wb b cs t) (h2 : Ext w w2) (m : Mod (· = b) w2 w3) : Ext w w3 :=
  h2.then m fun i hi e => by have := h.size; have := k.num; omega
/-! ### Lengths and places -/
theorem WL.lenS {t e : Nat} {x : Operand} {ao : Option Addr} {m c : Nat} (ht : elemT P t = some e) (hx : ev f x = .slice ao m c) (hd : decide (d < n) = true) (k : WL P ops l n (upd f d (IN m)) w Q) :
    WL P ops (⟨some d, .call { callee := .builtin .len, args := #[x], argTypes := #[t] }, ty, pos, aft, none⟩ :: l) n f w Q := by
  refine WL.val rfl hd (v := IN m) (w' := w) ?_ k
  unfold elemT at ht
  split at ht <;> try cases ht
  rename_i hu
  simp [execOp, resolve, invoke, builtin, hx, Builtin.len_, run_underlying hu, goInt, Result.andThen]
theorem WL.lenStr {t : Nat} {x : Operand} {s : ByteArray} (ht : P.underlying t = some .string) (hx : ev f x = .string s) (hd : decide (d < n) = true) (k : WL P ops l n (upd f d (IN s.size)) w Q) :
    WL P ops (⟨some d, .call { callee := .builtin .len, args := #[x], argTypes := #[t] }, ty, pos, aft, none⟩ :: l) n f w Q := by
  refine WL.val rfl hd (v := IN s.size) (w' := w) ?_ k
  simp [execOp, resolve, invoke, builtin, hx, Builtin.len_, run_underlying ht, goInt, Result.andThen]
theorem WL.indexAddr {t e sz : Nat} {x y : Operand} {b o m c i : Nat} {kd : IntKind} (ht : elemT P t = some e) (hz : sizeT P e = some sz) (hx : ev f x = .slice (some ⟨b, o, none⟩) m c) (hy : ev f y = .int kd (i : Int)) (hi : i < m) (hd : decide (d < n) = true)
    (k : WL P ops l n (upd f d (ptr b (o + i * sz))) w Q) : WL P ops (⟨some d, .indexAddr t x y, ty, pos, aft, none⟩ :: l) n f w Q := by
  refine WL.val rfl hd (v := ptr b (o + i * sz)) (w' := w) ?_ k
  unfold elemT at ht
  split at ht <;> try cases ht
  rename_i hu
  simp [execOp, hx, hy, Instr.indexAt, asIntOf, run_underlying hu, sizeT_run hz, hi, addr_add, Result.andThen]
theorem WL.indexAddr1 {t e : Nat} {x y : Operand} {b o m c i : Nat} {kd : IntKind} (ht : elemT P t = some e) (hz : sizeT P e = some 1) (hx : ev f x = .slice (some ⟨b, o, none⟩) m c) (hy : ev f y = .int kd (i : Int)) (hi : i < m) (hd : decide (d < n) = true)
    (k : WL P ops l n (upd f d (ptr b (o + i))) w Q) : WL P ops (⟨some d, .indexAddr t x y, ty, pos, aft, none⟩ :: l) n f w Q :=
  WL.indexAddr ht hz hx hy hi hd (by rw [Nat.mul_one]; exact k)
def arrT (P : Program) (t : Nat) : Option (Nat × Nat) :=
  match P.underlying t with
  | some (.array m e) => some (m, e)
  | _ => none
theorem WL.indexArr {t e sz m : Nat} {x y : Operand} {b o i : Nat} {kd : IntKind} (ht : arrT P t = some (m, e)) (hz : sizeT P e = some sz) (hx : ev f x = ptr b o) (hy : ev f y = .int kd (i : Int)) (hi : i < m) (hd : decide (d < n) = true)
    (k : WL P ops l n (upd f d (ptr b (o + i * sz))) w Q) : WL P ops (⟨some d, .indexAddr t x y, ty, pos, aft, none⟩ :: l) n f w Q := by
  refine WL.val rfl hd (v := ptr b (o + i * sz)) (w' := w) ?_ k
  unfold arrT at ht
  split at ht <;> try cases ht
  rename_i hu
  simp [execOp, hx, hy, Instr.indexAt, asIntOf, run_underlying hu, Instr.sureAddr, sizeT_run hz, hi, addr_add, Result.andThen]
theorem WL.indexArr1 {t e m : Nat} {x y : Operand} {b o i : Nat} {kd : IntKind} (ht : arrT P t = some (m, e)) (hz : sizeT P e = some 1) (hx : ev f x = ptr b o) (hy : ev f y = .int kd (i : Int)) (hi : i < m) (hd : decide (d < n) = true)
    (k : WL P ops l n (upd f d (ptr b (o + i))) w Q) : WL P ops (⟨some d, .indexAddr t x y, ty, pos, aft, none⟩ :: l) n f w Q :=
  WL.indexArr ht hz hx hy hi hd (by rw [Nat.mul_one]; exact k)
end ops
end Go.Ux
end
section
/- From a law's contract to its row: what the call leaves alone reads as it did. No program in sight. -/
namespace Go.Ux
open Go.ChangeShapes Go.WideShapes Go.ChangeAt Go.RowKit
variable {H : Type} {enc : TypeId × Value → H} {P : Program}
theorem trodAll_below (hl : laidOutB P = true) {W W' : World} (hb : Below W.heap.size W W') {sp : Nat → Bool} :
    ∀ {ts : List TypeId} {vs : List Value} {ds : List (DataW H)} {ps : List MemPlace}, (∀ t ∈ ts, P.readableRec t = true ∧ t < P.types.size) →
      (∀ x ∈ ps, x.block < W.heap.size) → (∀ x ∈ ps, sp x.block = true) →
      DataW.TrodAll enc P W 0 (fun _ => true) true ts vs ds ps → DataW.TrodAll enc P W' 0 sp true ts vs ds ps
  | [], vs, ds, ps, _, _, _, h => by
    cases vs <;> cases ds <;> simp [DataW.TrodAll] at h ⊢
    exact h
  | t :: ts, vs, ds, ps, ht, hlt, hsp, h => by
    obtain ⟨v, vs', d, ds', p, q, rfl, rfl, rfl, h1, h2⟩ := trodAll_cons h
    have h3 := trodAll_below hl hb (fun t' h' => ht t' (List.mem_cons_of_mem _ h')) (fun x hx => hlt x (List.mem_append_right _ hx)) (fun x hx => hsp x (List.mem_append_right _ hx)) h2
    exact ⟨p, q, WideElems.Trod_stays hl (ht t (by simp)).1 (ht t (by simp)).2 h1 (fun x hx => hb.same (hlt x (List.mem_append_left _ hx))) (fun x hx => hsp x (List.mem_append_left _ hx)), h3, rfl⟩
/-- What a law's row asks of the call's end, of a law that leaves all that was there alone. -/
theorem post_law {f : Func} {s : ChangeSpec} {apart fresh handsOn again : Bool} {W W' : World} {args : Array Value} {ds gs : List (DataW H)} {before : List MemPlace} {t : TypeId}
    (hl : laidOutB P = true) (hrow : ∀ t ∈ f.params.toList, P.readableRec t = true ∧ t < P.types.size) (hrt : f.resultTypes = #[t]) (ht : P.underlying t = some .bool) (hvars : s.vars = [])
    (hs : s.fn H ds = { results := [.lit (.bool true)], args := ds })
    (hW : DataW.Whole enc P f.params.toList s.vars apart W args.toList ds gs before) (hb : Below W.heap.size W W') :
    s.post enc P f apart fresh handsOn again W args (.bool true) W' := by
  have hW' := hW
  have hlt : ∀ p ∈ before, p.block < W.heap.size := fun p hp => hW.lt p hp
  obtain ⟨pa, pv, hA, hV, rfl, hz, hn⟩ := hW
  rw [hvars] at hV
  obtain ⟨rfl, rfl⟩ := trodVars_none hV
  rw [List.append_nil] at hW' hlt hz hn
  have hs' : s.fn H (ds ++ []) = { results := [.lit (.bool true)], args := ds } := by rw [List.append_nil]; exact hs
  have hres : ∀ (b : Nat) (sp : Nat → Bool) (hd : Bool), DataW.TrodAll enc P W' b sp hd f.resultTypes.toList ((Value.bool true).resultList f.resultTypes.size) [.lit (.bool true)] [] := by
    intro b sp hd
    rw [hrt]
    exact trodAll_mk1 (shut_bool ht true)
  have hargs : ∀ sp : Nat → Bool, (∀ p ∈ pa, sp p.block = true) → DataW.TrodAll enc P W' 0 sp true f.params.toList args.toList ds pa := fun sp h => trodAll_below hl hb hrow hlt h hA
  have hold : ∀ p ∈ pa, (fun b => decide (b < W.heap.size)) p.block = true := fun p hp => by simpa using hlt p hp
  refine ⟨ds, [], pa, [], pa, [], hW', ?_, ?_, ?_, hb.frame _, fun _ => ?_⟩
  · rw [hs']; exact hres _ _ _
  · rw [hs']; exact hargs _ hold
  · rw [hvars, hs']; rfl
  · refine ⟨ok_one hrt rfl (okWide_bool_mk ht true), _, [], ([] ++ pa) ++ [], ⟨[] ++ pa, [], trodAll_append (hargs _ (fun _ _ => rfl)) (hres _ _ _), by rw [hvars]; rfl, rfl, ?_, ?_⟩, ?_⟩
    · intro b off hp
      have hp' : MemPlace.cell b off ∈ pa := by simpa using hp
      rw [hb.frozen (p := ⟨b, off, none⟩) (hlt _ hp')]
      exact hz b off hp'
    · intro ha
      simpa using hn ha
    · intro p hp _
      simpa using hp
theorem wf_i64 {n : Int} (h : (Lit.int .i64 n).wf = true) : Value.int .i64 n = I64 (BitVec.ofInt 64 n) := by
  simp only [Lit.wf, Bool.and_eq_true, IntKind.min, IntKind.max] at h
  exact cI64 n (by simpa [IntKind.min, IntKind.max, IntKind.signed, IntKind.bits] using h)
theorem wf_u8 {n : Int} (h : (Lit.int .u8 n).wf = true) : ∃ m : Nat, n = ((m : Nat) : Int) ∧ m < 256 := by
  simp only [Lit.wf, Bool.and_eq_true, decide_eq_true_eq] at h
  have h' : 0 ≤ n ∧ n ≤ 255 := h
  exact ⟨n.toNat, by omega, by omega⟩
theorem cells_of_ints {W : World} {a : Addr} {zs : List Int} (hc : ∀ i, i < zs.length → W.cell? (a.add i) = some (.int .i64 (zs.getD i 0))) (hw : ∀ n ∈ zs, (Lit.int .i64 n).wf = true) (l : Nat) (hl : l ≤ zs.length) (h0 : 0 < l) :
    a.spot = none ∧ Cells W a.block a.off (((zs.take l).map (BitVec.ofInt 64)).map I64) := by
  have h1 := hc 0 (by omega)
  have hs : a.spot = none := by
    simp only [Addr.add, if_true] at h1
    unfold World.cell? at h1
    split at h1
    · split at h1
      · cases h1
      · rename_i hn; simpa using hn
    · cases h1
  refine ⟨hs, fun j u hj => ?_⟩
  simp only [List.map_map, List.getElem?_map, Option.map_eq_some_iff] at hj
  obtain ⟨z, hz, rfl⟩ := hj
  obtain ⟨hj, rfl⟩ := List.getElem?_eq_some_iff.1 hz
  simp only [List.length_take] at hj
  have h2 := hc j (by omega)
  have e : a.add j = ⟨a.block, a.off + j, none⟩ := by
    unfold Addr.add
    split
    · rename_i h; subst h; rw [← hs]; rfl
    · rfl
  rw [e, List.getD_eq_getElem?_getD, List.getElem?_eq_getElem (show j < zs.length by omega), Option.getD_some] at h2
  rw [h2, List.getElem_take]
  exact congrArg some (wf_i64 (hw _ (List.getElem_mem _)))
theorem mem_params {f : Func} {p : TypeId → Bool} (h : f.params.toList.all p = true) {j : Nat} {t : TypeId} (ht : f.params[j]? = some t) : p t = true :=
  List.all_eq_true.1 h t (by have := Array.mem_of_getElem? ht; simpa using this)
end Go.Ux
end
section
/- The walking engine: slices that came in, slices that the call made; append; strings and bytes. -/
namespace Go.Ux
open Go
/-- A slice of n elements, of this many cells each, that hold these. -/
def Sl (w : World) (v : Value) (size n : Nat) (xs : List Value) : Prop :=
  ∃ ao cap, v = .slice ao n cap ∧ n ≤ cap ∧ xs.length = n * size ∧ (n = 0 ∨ ∃ b o, ao = some ⟨b, o, none⟩ ∧ Cells w b o xs)
theorem Sl.mod {O : Nat → Prop} {w w' : World} {v : Value} {size n : Nat} {xs : List Value} (h : Sl w v size n xs) (m : Mod O w w') (hO : ∀ a l c, v = .slice (some a) l c → ¬ O a.block) : Sl w' v size n xs := by
  obtain ⟨ao, cap, rfl, hc, hl, h0⟩ := h
  refine ⟨ao, cap, rfl, hc, hl, h0.imp id ?_⟩
  rintro ⟨b, o, rfl, hcl⟩
  exact ⟨b, o, rfl, hcl.mod m (hO _ _ _ rfl)⟩
theorem Sl.ext {w w' : World} {v : Value} {size n : Nat} {xs : List Value} (h : Sl w v size n xs) (m : Ext w w') : Sl w' v size n xs := h.mod m fun _ _ _ _ x => x
section ops
variable {P : Program} {ops : Array Oper} {l : List Oper} {n : Nat} {f : Fr} {w : World} {Q : Exit → Fr → World → Prop}
variable {d : Nat} {ty : TypeId} {pos : String} {aft : Array Edge}
theorem elemT_und {t e : Nat} (ht : elemT P t = some e) : P.underlying t = some (.slice e) := by
  unfold elemT at ht
  split at ht <;> try cases ht
  assumption
/-- 's[i:]' -/
theorem WL.sliceFrom {t e sz : Nat} {x lo : Operand} {ao : Option Addr} {m c i : Nat} {kd : IntKind} (ht : elemT P t = some e) (hz : sizeT P e = some sz) (hx : ev f x = .slice ao m c) (hlo : ev f lo = .int kd (i : Int)) (hi : i ≤ m) (hmc : m ≤ c) (hd : decide (d < n) = true)
    (k : ∀ ao', (i < m → ao' = ao.map (·.add (i * sz))) → (i = m → m < c → ao' = ao.map (·.add (i * sz))) → WL P ops l n (upd f d (.slice ao' (m - i) (c - i))) w Q) :
    WL P ops (⟨some d, .slice t x (some lo) none none, ty, pos, aft, none⟩ :: l) n f w Q := by
  have hu := elemT_und ht
  refine WL.val rfl hd (v := .slice (if c = i then ao else ao.map (·.add (i * sz))) (m - i) (c - i)) (w' := w) ?_ (k _ (fun h => if_neg (by omega)) (fun h h' => if_neg (by omega)))
  have h1 : (0 : Int) ≤ (i : Int) ∧ (i : Int) ≤ (m : Int) := by omega
  simp [execOp, hx, hlo, Instr.sliceAt, Instr.slice, run_underlying hu, Instr.sliceBounds, Instr.sliceBound, asIntOf, sizeT_run hz, hi, Result.andThen]
/-- 's[:j]' -/
theorem WL.sliceTo {t e sz : Nat} {x hi : Operand} {ao : Option Addr} {m c j : Nat} {kd : IntKind} (ht : elemT P t = some e) (hz : sizeT P e = some sz) (hx : ev f x = .slice ao m c) (hhi : ev f hi = .int kd (j : Int)) (hj : j ≤ c) (hd : decide (d < n) = true)
    (k : WL P ops l n (upd f d (.slice ao j c)) w Q) :
    WL P ops (⟨some d, .slice t x none (some hi) none, ty, pos, aft, none⟩ :: l) n f w Q := by
  have hu := elemT_und ht
  refine WL.val rfl hd (v := .slice ao j c) (w' := w) ?_ k
  have h0 : (if c = 0 then ao else ao.map (·.add 0)) = ao := by
    split
    · rfl
    · cases ao <;> simp [Addr.add]
  simp [execOp, hx, hhi, Instr.sliceAt, Instr.slice, run_underlying hu, Instr.sliceBounds, Instr.sliceBound, asIntOf, sizeT_run hz, hj, Result.andThen]
  intro _; cases ao <;> simp [Addr.add]
/-- 's[i:j]' -/
theorem WL.sliceLH {t e sz : Nat} {x lo hi : Operand} {ao : Option Addr} {m c i j : Nat} {kd kd' : IntKind} (ht : elemT P t = some e) (hz : sizeT P e = some sz) (hx : ev f x = .slice ao m c) (hlo : ev f lo = .int kd (i : Int)) (hhi : ev f hi = .int kd' (j : Int)) (hij : i ≤ j) (hj : j ≤ c) (hd : decide (d < n) = true)
    (k : ∀ ao', (i < j → ao' = ao.map (·.add (i * sz))) → WL P ops l n (upd f d (.slice ao' (j - i) (c - i))) w Q) :
    WL P ops (⟨some d, .slice t x (some lo) (some hi) none, ty, pos, aft, none⟩ :: l) n f w Q := by
  have hu := elemT_und ht
  refine WL.val rfl hd (v := .slice (if c = i then ao else ao.map (·.add (i * sz))) (j - i) (c - i)) (w' := w) ?_ (k _ (fun h => if_neg (by omega)))
  simp [execOp, hx, hlo, hhi, Instr.sliceAt, Instr.slice, run_underlying hu, Instr.sliceBounds, Instr.sliceBound, asIntOf, sizeT_run hz, hij, hj, Result.andThen]
end ops
end Go.Ux
end
section
/- The walking engine: a region whose order is drawn. What yields its value in every world that meets S is taken first; of the rest each that may come up. -/
namespace Go.Ux
open Go
theorem val_next {P : Program} {s : Sem Value} {nx : Next} {w w' : World} (h : (do pure (Next.value (← s)) : Sem Next).run P w = .ok nx w') : ∃ u, nx = .value u := by
  rw [Sem.run_bind] at h
  cases hs : s.run P w with
  | ok v w1 => rw [hs] at h; simp [Result.andThen] at h; exact ⟨_, h.1.symm⟩
  | halt x w1 => rw [hs] at h; simp [Result.andThen] at h
/-- The operation yields a value, or ends the way: it enters nothing. -/
def calm (o : Oper) : Bool := match o.op with
  | .move _ | .assign _ | .pick .. | .load .. | .binOp .. | .unOp .. | .convert .. | .slice .. | .fieldAddr .. | .field .. | .indexAddr .. | .index .. | .extract .. | .build .. => true
  | .call { callee := .builtin .len, .. } => true
  | _ => false
theorem calm_next {P : Program} {ρ : Operand → Value} {o : Oper} {nx : Next} {w w' : World} (hc : calm o = true) (h : (execOp ρ o).run P w = .ok nx w') : ∃ u, nx = .value u := by
  unfold execOp at h
  unfold calm at hc
  split at hc
  case h_16 => cases hc
  case h_15 =>
    rename_i he
    rw [he] at h
    simp only [resolve, invoke, builtin, Sem.run_bind, Sem.run_pure, Result.andThen] at h
    generalize Sem.run P (Builtin.len_ _ _ _) w = r at h
    cases r with
    | ok v w1 => simp at h; exact ⟨_, h.1.symm⟩
    | halt x w1 => simp at h
  all_goals
    rename_i he
    rw [he] at h
    simp only at h
  case h_1 => simp at h; exact ⟨_, h.1.symm⟩
  case h_2 => simp at h; exact ⟨_, h.1.symm⟩
  case h_3 c a b =>
    rw [Sem.run_bind] at h
    cases hs : (asBool (ρ c)).run P w with
    | ok v w1 => rw [hs] at h; simp [Result.andThen] at h; exact ⟨_, h.1.symm⟩
    | halt x w1 => rw [hs] at h; simp [Result.andThen] at h
  all_goals exact val_next h
section
variable {P : Program} {ops : Array Oper} {n : Nat} {f : Fr} {w : World} {Q : Exit → Fr → World → Prop} {S : World → Prop}
/-- What an operation leaves that yields v and does nothing else. -/
def Left1 (f : Fr) (d : Nat) (v : Value) (w : World) : Exit → Fr → World → Prop := fun e f' w' => e = .normal ∧ f' = upd f d v ∧ w' = w
theorem yields_of {o : Oper} {d : Nat} {v : Value} {a : Act} (hc : calm o = true) (hd : o.dst = some d) (hdn : decide (d < n) = true) (h1 : a.tmps.size = n) (h2 : a.defers = [])
    (h : ∀ w, S w → WL P ops [o] n (frOf a) w (Left1 (frOf a) d v w)) : (∃ w, S w) → YieldsIf P ops S o v a := by
  rintro ⟨w0, hw0⟩
  have hdn' : d < a.tmps.size := by rw [h1]; simpa using hdn
  have same : ∀ u, upd (frOf a) d u = upd (frOf a) d v → u = v := fun u e => by have := congrFun e d; rwa [upd_same, upd_same] at this
  cases hw : Region.wanted o (yielded ops a.tmps) with
  | false =>
    refine .inr ⟨hw, ?_⟩
    have := h w0 hw0 a h1 h2 rfl
    unfold wpList at this
    rw [if_neg (by rw [hw]; simp)] at this
    obtain ⟨_, _, _, e, _⟩ := this
    rw [hd, frOf_put a d _ hdn'] at e
    exact (same _ e).symm
  | true =>
    refine .inl ⟨hw, fun w hS => ?_⟩
    have := h w hS a h1 h2 rfl
    unfold wpList at this
    rw [if_pos hw] at this
    rcases this with this | ⟨_, _, _, hl⟩
    case inr => obtain ⟨_, _, e, _⟩ := hl; cases e
    unfold Oper.wp at this
    cases hr : (execOp a.eval o).run P w with
    | ok nx w' =>
      obtain ⟨u, rfl⟩ := calm_next hc hr
      rw [hr] at this
      obtain ⟨_, _, _, e, rfl⟩ := this
      rw [hd, frOf_put a d _ hdn'] at e
      rw [same _ e]
    | halt x w' =>
      rw [hr] at this
      cases x <;> first | exact this.elim | skip
      obtain ⟨_, _, e, _⟩ := this; cases e
/-- Which operations have come up: the bits of a number. -/
def bits (N m : Nat) : Array Bool := ((List.range N).map fun i => m.testBit i).toArray
theorem bits_set (N m i : Nat) (_ : i < N) : (bits N m).setIfInBounds i true = bits N (m ||| 1 <<< i) := by
  apply Array.ext
  · simp [bits]
  · intro j h1 h2
    have hj : j < N := by simpa [bits] using h2
    rw [Array.getElem_setIfInBounds]
    · simp only [bits, List.getElem_toArray, List.getElem_map, List.getElem_range, Nat.testBit_or, Nat.one_shiftLeft, Nat.testBit_two_pow]
      by_cases e : i = j
      · subst e; simp
      · simp [e]
    · simpa [bits] using hj
theorem bits_zero (N : Nat) : bits N 0 = Array.replicate N false := by
  apply Array.ext <;> simp [bits]
/-- Whatever order is picked from here on. -/
def WA (P : Program) (ops : Array Oper) (S : World → Prop) (n fuel m : Nat) (f : Fr) (w : World) (Q : Exit → Fr → World → Prop) : Prop :=
  ∀ a : Act, a.tmps.size = n → a.defers = [] → frOf a = f → wpAnyH P .any ops (Post n Q) S fuel (bits ops.size m) a w
theorem WC.draw {id : Nat} {l : List Oper} (S : World → Prop) (N : Nat) (hN : l.toArray.size = N) (hm : P.follows .mixedOrders = true) (h : ∀ w1, Ext w w1 → WA P l.toArray S n N 0 f w1 Q) : WC P (.region id l.toArray true) n f w Q := by
  intro a h1 h2 h3
  refine wp_region_held (S := S) hm ?_
  rw [← bits_zero]
  have := h { w with drawn := w.drawn + 1 } (Mod.drew _ _) a h1 h2 h3
  rw [← hN] at this
  exact this
theorem WA.take {i m m' d fuel : Nat} {o : Oper} {v : Value} (hi : ops[i]? = some o) (hc : calm o = true) (hd : o.dst = some d) (hdn : decide (d < n) = true)
    (hs : (Region.noSelect ops && Region.free .any ops (bits ops.size m) i && (Region.ready .any ops (bits ops.size m)).contains i) = true) (hm : m ||| 1 <<< i = m')
    (hQ : ∀ c f w, Q (.panic c) f w → False) (hy : ∀ w, S w → WL P ops [o] n f w (Left1 f d v w)) (hS : S w)
    (k : WA P ops S n fuel m' (upd f d v) w Q) : WA P ops S n (fuel + 1) m f w Q := by
  intro a h1 h2 h3
  simp only [Bool.and_eq_true] at hs
  have hin : i < ops.size := (Array.getElem?_eq_some_iff.1 hi).1
  refine wpAnyH_take hi hs.1.1 hs.1.2 hs.2 (fun c a w h => (hQ c _ _ h.2.2).elim) (v := v) (yields_of hc hd hdn h1 h2 (by rw [h3]; exact hy) ⟨w, hS⟩) hS ?_
  rw [bits_set _ _ _ hin, hm, hd]
  exact k _ (by rw [size_put, h1]) (by rw [defers_put, h2]) (by rw [frOf_put a d v (by rw [h1]; simpa using hdn), h3])
/-- An operation whose guard is not met. -/
theorem WA.off {i m m' d fuel j : Nat} {b : Bool} {y : Option Bool} {o : Oper} (hi : ops[i]? = some o) (hg : o.guard = some (j, b)) (hd : o.dst = some d) (hdn : decide (d < n) = true)
    (hs : (Region.noSelect ops && Region.free .any ops (bits ops.size m) i && (Region.ready .any ops (bits ops.size m)).contains i) = true) (hm : m ||| 1 <<< i = m')
    (hQ : ∀ c f w, Q (.panic c) f w → False) (hy : yf ops f j = y) (hb : (y == some b) = false) (hS : S w)
    (k : WA P ops S n fuel m' (upd f d undef) w Q) : WA P ops S n (fuel + 1) m f w Q := by
  intro a h1 h2 h3
  simp only [Bool.and_eq_true] at hs
  have hin : i < ops.size := (Array.getElem?_eq_some_iff.1 hi).1
  have hw : Region.wanted o (yielded ops a.tmps) = false := by
    simp only [Region.wanted, hg]
    cases y with
    | none => rw [yielded_none a j (by rw [h3]; exact hy)]; rfl
    | some b' => rw [yielded_eq a j b' (by rw [h3]; exact hy)]; simpa using hb
  refine wpAnyH_take hi hs.1.1 hs.1.2 hs.2 (fun c a w h => (hQ c _ _ h.2.2).elim) (v := undef) (.inr ⟨hw, rfl⟩) hS ?_
  rw [bits_set _ _ _ hin, hm, hd]
  exact k _ (by rw [size_put, h1]) (by rw [defers_put, h2]) (by rw [frOf_put a d _ (by rw [h1]; simpa using hdn), h3])
/-- What is left behind an operation that is carried out where it comes up. -/
def Behind (P : Program) (ops : Array Oper) (S : World → Prop) (n fuel m : Nat) (Q : Exit → Fr → World → Prop) : Exit → Fr → World → Prop :=
  fun e f w => match e with
    | .normal => S w ∧ WA P ops S n fuel m f w Q
    | _ => False
theorem wpOp_of_WL {i m m' fuel : Nat} {o : Oper} (hi : ops[i]? = some o) (hm : m ||| 1 <<< i = m') (h : WL P ops [o] n f w (Behind P ops S n fuel m' Q)) {a : Act} (h1 : a.tmps.size = n) (h2 : a.defers = []) (h3 : frOf a = f) :
    wpOp P ops (Post n Q) i (fun a' w' => S w' ∧ wpAnyH P .any ops (Post n Q) S fuel ((bits ops.size m).setIfInBounds i true) a' w') a w := by
  have hin : i < ops.size := (Array.getElem?_eq_some_iff.1 hi).1
  have := h a h1 h2 h3
  unfold wpOp
  simp only [hi]
  unfold wpList at this
  have fin : ∀ a' w', wpList P ops (Post n (Behind P ops S n fuel m' Q)) [] a' w' → S w' ∧ wpAnyH P .any ops (Post n Q) S fuel ((bits ops.size m).setIfInBounds i true) a' w' := by
    rintro a' w' ⟨k1, k2, k3, k4⟩
    rw [bits_set _ _ _ hin, hm]
    exact ⟨k3, k4 a' k1 k2 rfl⟩
  split
  · rename_i hw
    rw [if_pos hw] at this
    rcases this with this | ⟨_, _, _, hl⟩
    · refine .inl ?_
      have h4 := Oper.wp_mono fin this
      unfold Oper.wp at h4 ⊢
      generalize (execOp a.eval o).run P w = r at h4 ⊢
      cases r with
      | ok nx w' =>
        cases nx <;> first | exact h4 | skip
        refine Calls.mono h4 fun e w'' he => ?_
        cases e with
        | returned u => exact he
        | panicked c => exact he.2.2.elim
        | outgrown => obtain ⟨_, _, _, _, e⟩ := he; exact e.elim
      | halt x w' =>
        cases x <;> first | exact h4 | skip
        exact h4.2.2.elim
    · exact hl.2.2.elim
  · rename_i hw
    rw [if_neg hw] at this
    exact fin _ _ this
theorem WA.one {i m m' fuel : Nat} {o : Oper} (hr : Region.ready .any ops (bits ops.size m) = [i]) (hi : ops[i]? = some o) (hm : m ||| 1 <<< i = m')
    (h : WL P ops [o] n f w (Behind P ops S n fuel m' Q)) : WA P ops S n (fuel + 1) m f w Q := by
  intro a h1 h2 h3
  refine wpAnyH_all hr (by simp) fun j hj => ?_
  obtain rfl : j = i := by simpa using hj
  exact wpOp_of_WL hi hm h h1 h2 h3
theorem WA.two {i j m mi mj fuel : Nat} {o o' : Oper} (hr : Region.ready .any ops (bits ops.size m) = [i, j]) (hi : ops[i]? = some o) (hj : ops[j]? = some o') (hmi : m ||| 1 <<< i = mi) (hmj : m ||| 1 <<< j = mj)
    (h : WL P ops [o] n f w (Behind P ops S n fuel mi Q)) (h' : WL P ops [o'] n f w (Behind P ops S n fuel mj Q)) : WA P ops S n (fuel + 1) m f w Q := by
  intro a h1 h2 h3
  refine wpAnyH_all hr (by simp) fun k hk => ?_
  rcases (by simpa using hk : k = i ∨ k = j) with rfl | rfl
  · exact wpOp_of_WL hi hmi h h1 h2 h3
  · exact wpOp_of_WL hj hmj h' h1 h2 h3
theorem WA.done {m fuel : Nat} (hr : Region.ready .any ops (bits ops.size m) = []) (h : Q .normal f w) : WA P ops S n fuel m f w Q :=
  fun _ h1 h2 h3 => wpAnyH_done hr ⟨h1, h2, by rw [h3]; exact h⟩ _
theorem WL.behind {fuel m : Nat} (hS : S w) (h : WA P ops S n fuel m f w Q) : WL P ops [] n f w (Behind P ops S n fuel m Q) := WL.nil ⟨hS, h⟩
end
end Go.Ux
end
section
/- The walking engine: more arithmetic on counters and small kinds. -/
namespace Go.Ux
open Go
variable {P : Program} {t : TypeId}
theorem Cells.ext {w w' : World} {b o : Nat} {vs : List Value} (h : Cells w b o vs) (m : Ext w w') : Cells w' b o vs := h.mod m fun x => x
theorem BinR.remK {k : IntKind} {a b : Int} (ha : 0 ≤ a) (hb : b ≠ 0) : BinR P .rem t (.int k a) (.int k b) (.int k (a % b)) := .of_int fun w => by
  simp [binOp, Op.intDiv, hb, Int.tmod_eq_emod_of_nonneg ha]
theorem BinR.addN {a b : Nat} (h : a + b ≤ 9223372036854775807) : BinR P .add t (IN a) (IN b) (IN (a + b)) := by
  have := BinR.addI (P := P) (t := t) (a := (a : Int)) (b := (b : Int)) (by omega)
  show BinR P .add t (.int .i64 (a : Int)) (.int .i64 (b : Int)) (.int .i64 ((a + b : Nat) : Int))
  rw [show ((a + b : Nat) : Int) = (a : Int) + (b : Int) by omega]; exact this
theorem BinR.subN {a b : Nat} (h : b ≤ a) (ha : a ≤ 9223372036854775807) : BinR P .sub t (IN a) (IN b) (IN (a - b)) := by
  have := BinR.subI (P := P) (t := t) (a := (a : Int)) (b := (b : Int)) (by omega)
  show BinR P .sub t (.int .i64 (a : Int)) (.int .i64 (b : Int)) (.int .i64 ((a - b : Nat) : Int))
  rw [show ((a - b : Nat) : Int) = (a : Int) - (b : Int) by omega]; exact this
theorem BinR.mulN {a b : Nat} (h : a * b ≤ 9223372036854775807) : BinR P .mul t (IN a) (IN b) (IN (a * b)) := by
  have e : ((a * b : Nat) : Int) = (a : Int) * (b : Int) := Int.natCast_mul a b
  have := BinR.mulI (P := P) (t := t) (a := (a : Int)) (b := (b : Int)) (by omega)
  show BinR P .mul t (.int .i64 (a : Int)) (.int .i64 (b : Int)) (.int .i64 ((a * b : Nat) : Int))
  rw [e]; exact this
theorem BinR.remN {a b : Nat} (hb : b ≠ 0) : BinR P .rem t (IN a) (IN b) (IN (a % b)) := by
  have := BinR.remI (P := P) (t := t) (a := (a : Int)) (b := (b : Int)) (by omega) (by omega)
  show BinR P .rem t (.int .i64 (a : Int)) (.int .i64 (b : Int)) (.int .i64 ((a % b : Nat) : Int))
  rw [show ((a % b : Nat) : Int) = (a : Int) % (b : Int) by omega]; exact this
theorem BinR.addK8 {a b : Nat} (h : a + b ≤ 255) : BinR P .add t (.int .u8 (a : Int)) (.int .u8 (b : Int)) (.int .u8 ((a + b : Nat) : Int)) := by
  have := BinR.add (P := P) (t := t) (k := .u8) (a := (a : Int)) (b := (b : Int))
  have e : IntKind.u8.wrap ((a : Int) + (b : Int)) = ((a + b : Nat) : Int) := by
    rw [wrap_u8_bv, BitVec.toNat_ofInt]
    omega
  rwa [e] at this
end Go.Ux
end
section
/- The walking engine: a slice that the call owns, and what is appended to it. -/
namespace Go.Ux
open Go
/-- The slice v, of n elements of this many cells, may be written on, spare places too; its elements are xs. -/
def Own (w : World) (size : Nat) (v : Value) (n : Nat) (xs : List Value) : Prop :=
  xs.length = n * size ∧ ((v = .slice none 0 0 ∧ n = 0) ∨
    ∃ g cap, v = .slice (some ⟨g, 0, none⟩) n cap ∧ n ≤ cap ∧ Cells w g 0 xs ∧ ∀ j, j < cap * size → (w.cell? ⟨g, j, none⟩).isSome = true ∧ w.frozen? ⟨g, j, none⟩ = false)
theorem Own.nil (w : World) (size : Nat) : Own w size (.slice none 0 0) 0 [] := ⟨by simp, .inl ⟨rfl, rfl⟩⟩
theorem Own.lt {w : World} {size : Nat} {v : Value} {n : Nat} {xs : List Value} (h : Own w size v n xs) (h0 : 0 < n) (hs : 0 < size) {g : Nat} (hg : v.ownBlock = some g) : g < w.heap.size := by
  rcases h.2 with ⟨rfl, h1⟩ | ⟨g', cap, rfl, hn, hc, hf⟩
  · omega
  · simp [Value.ownBlock] at hg
    subst hg
    have := (hf 0 (Nat.mul_pos (by omega) hs)).1
    exact World.block_lt_of_cell? w _ (Option.isSome_iff_exists.1 this).choose_spec
/-- The world turned in block v's alone; v' lies where v lay, or in a new block. -/
def LocV (w : World) (v v' : Value) : Prop := v'.ownBlock = v.ownBlock ∨ ∃ g, v'.ownBlock = some g ∧ w.heap.size ≤ g
theorem LocV.refl (w : World) (v : Value) : LocV w v v := .inl rfl
theorem LocV.trans {w w' : World} {v v' v'' : Value} (h : LocV w v v') (k : LocV w' v' v'') (hs : w.heap.size ≤ w'.heap.size) : LocV w v v'' := by
  rcases k with k | ⟨g, k, hg⟩
  · rcases h with h | ⟨g, h, hg⟩
    · exact .inl (k.trans h)
    · exact .inr ⟨g, k.trans h, hg⟩
  · exact .inr ⟨g, k, Nat.le_trans hs hg⟩
theorem LocV.ne {w : World} {v v' : Value} (h : LocV w v v') {b : Nat} (hb : b < w.heap.size) (hv : v.ownBlock ≠ some b) : v'.ownBlock ≠ some b := by
  rcases h with h | ⟨g, h, hg⟩
  · rw [h]; exact hv
  · rw [h]; intro e; cases e; omega
/-- v lies in no block below B. -/
def From (B : Nat) (v : Value) : Prop := ∀ g, v.ownBlock = some g → B ≤ g
theorem LocV.from {w : World} {v v' : Value} {B : Nat} (h : LocV w v v') (hB : B ≤ w.heap.size) (hv : From B v) : From B v' := by
  intro g hg
  rcases h with h | ⟨g', h, hg'⟩
  · exact hv g (h ▸ hg)
  · rw [h] at hg; cases hg; omega
theorem From.ne {B b : Nat} {v : Value} (h : From B v) (hb : b < B) : v.ownBlock ≠ some b := fun e => by have := h b e; omega
abbrev At (v : Value) : Nat → Prop := fun k => v.ownBlock = some k
theorem Mod.at {w w' w'' : World} {v v' : Value} (h : Mod (At v) w w') (k : Mod (At v') w' w'') (l : LocV w v v') : Mod (At v) w w'' :=
  h.then k fun i hi e => by
    rcases l with l | ⟨g, l, hg⟩
    · exact l.symm.trans e
    · have e' : v'.ownBlock = some i := e
      rw [l] at e'; cases e'; omega
/-- Of a slice that is new to w the world may be turned freely. -/
theorem Mod.from {w w' w'' : World} {v : Value} (h : Ext w w') (k : Mod (At v) w' w'') (hv : From w.heap.size v) : Ext w w'' :=
  h.then k fun i hi e => by have := hv i e; omega
theorem Own.mod {O : Nat → Prop} {w w' : World} {size : Nat} {v : Value} {n : Nat} {xs : List Value} (h : Own w size v n xs) (m : Mod O w w') (hO : ∀ g, v.ownBlock = some g → ¬ O g) : Own w' size v n xs := by
  refine ⟨h.1, ?_⟩
  rcases h.2 with h | ⟨g, cap, rfl, hn, hc, hf⟩
  · exact .inl h
  · refine .inr ⟨g, cap, rfl, hn, hc.mod m (hO g rfl), fun j hj => ?_⟩
    obtain ⟨h1, h2⟩ := hf j hj
    obtain ⟨u, hu⟩ := Option.isSome_iff_exists.1 h1
    refine ⟨by rw [m.cell hu (hO g rfl)]; rfl, ?_⟩
    rw [World.frozen?_of_block (w := w) (a := ⟨g, j, none⟩) (m.block g (World.block_lt_of_cell? w _ hu) (hO g rfl))]
    exact h2
theorem Own.ext {w w' : World} {size : Nat} {v : Value} {n : Nat} {xs : List Value} (h : Own w size v n xs) (m : Ext w w') : Own w' size v n xs := h.mod m fun _ _ x => x
theorem Own.sl {w : World} {size : Nat} {v : Value} {n : Nat} {xs : List Value} (h : Own w size v n xs) : Sl w v size n xs := by
  rcases h.2 with ⟨rfl, rfl⟩ | ⟨g, cap, rfl, hn, hc, _⟩
  · exact ⟨none, 0, rfl, Nat.le_refl _, h.1, .inl rfl⟩
  · exact ⟨_, cap, rfl, hn, h.1, .inr ⟨g, 0, rfl, hc⟩⟩
/-! ### worlds where cells are stored in a row -/
theorem setCells_mod (b : Nat) : ∀ (vs : List Value) (o : Nat) (w : World), Mod (· = b) w (w.setCells b o vs)
  | [], _, w => Mod.refl _ w
  | v :: r, o, w => (setCell_mod w b o v).trans (setCells_mod b r (o + 1) _)
/-! ### append -/
/-- Of a slice type: the element's type, its cells, its bytes, its zero value. -/
def appT (P : Program) (t : Nat) : Option (Nat × Nat × Nat × Array Value) :=
  match P.underlying t with
  | some (.slice e) => match P.info? e with
    | some i => match i.zero with
      | some z => some (e, i.size, i.bytes, z.cells)
      | none => none
    | none => none
  | _ => none
theorem append_own {P : Program} {t tx ty e size bytes : Nat} {zs : Array Value} (ha : appT P t = some (e, size, bytes, zs)) (hzs : zs.size = size) {w : World} {v x : Value} {n m : Nat} {xs news : List Value}
    (ho : Own w size v n xs) (hsrc : Src P size tx x m news w) (h63 : n + m ≤ 9223372036854775807) (hb : (n + m) * bytes ≤ 140737488355328) :
    ∃ v' w', (Builtin.append_ #[t, tx] ty #[v, x]).run P w = .ok v' w' ∧ Own w' size v' (n + m) (xs ++ news) ∧ Mod (At v) w w' ∧ LocV w v v' := by
  unfold appT at ha
  split at ha <;> try cases ha
  rename_i e' ht
  split at ha <;> try cases ha
  rename_i i hi
  split at ha <;> try cases ha
  rename_i z hz
  have hlen : (xs ++ news).length = (n + m) * i.size := by rw [List.length_append, ho.1, hsrc.newsLen, Nat.add_mul]
  have grown : ∀ (old : Nat) (base : Option Addr), (v = .slice base n old) → old < n + m → (Builtin.firstCells i.size n (.slice base n old)).run P w.drew = .ok xs.toArray w.drew →
      ∃ v' w', (Builtin.append_ #[t, tx] ty #[v, x]).run P w = .ok v' w' ∧ Own w' i.size v' (n + m) (xs ++ news) ∧ Mod (At v) w w' ∧ LocV w v v' := by
    intro old base hv hlt hold
    subst hv
    have hr := run_append_grow_src (P := P) w t tx ty e i z ht hi hz base n old xs hold x m news hsrc hlt (by omega) (growslice_fits hlt hb)
    have hge := grownCap_ge w (n + m) old e
    refine ⟨_, _, hr, ⟨hlen, .inr ⟨w.heap.size, _, rfl, hge, ?_, ?_⟩⟩, ?_, .inr ⟨w.heap.size, rfl, Nat.le_refl _⟩⟩
    · intro j u hj
      rw [Nat.zero_add]
      have hB : Blk (w.drew.alloc (.cells ((xs ++ news).toArray ++ Builtin.zeroCells z.cells (grownCap w (n + m) old e - (n + m))) e)) w.heap.size ((xs ++ news).toArray ++ Builtin.zeroCells z.cells (grownCap w (n + m) old e - (n + m))) e := alloc_blk w.drew _ e
      refine hB.cell ?_
      have hj' : j < (xs ++ news).length := (List.getElem?_eq_some_iff.1 hj).1
      rw [Array.getElem?_append_left (by simpa using hj')]
      simpa using hj
    · intro j hj
      have hB : Blk (w.drew.alloc (.cells ((xs ++ news).toArray ++ Builtin.zeroCells z.cells (grownCap w (n + m) old e - (n + m))) e)) w.heap.size ((xs ++ news).toArray ++ Builtin.zeroCells z.cells (grownCap w (n + m) old e - (n + m))) e := alloc_blk w.drew _ e
      have hsz : ((xs ++ news).toArray ++ Builtin.zeroCells z.cells (grownCap w (n + m) old e - (n + m))).size = grownCap w (n + m) old e * i.size := by
        rw [Array.size_append, size_zeroCells, hzs]
        simp only [List.size_toArray, hlen, ← Nat.add_mul]
        congr 1; omega
      refine ⟨?_, hB.frozen j⟩
      rw [hB.cell (Array.getElem?_eq_getElem (by rw [hsz]; exact hj))]
      rfl
    · exact (Mod.drew _ w).trans (Mod.ext (alloc_ext w.drew _))
  rcases ho.2 with ⟨rfl, rfl⟩ | ⟨g, cap, rfl, hn, hc, hf⟩
  · have hx : xs = [] := List.eq_nil_of_length_eq_zero (by simpa using ho.1)
    subst hx
    by_cases hm : m = 0
    · subst hm
      have hnn : news = [] := List.eq_nil_of_length_eq_zero (by simpa using hsrc.newsLen)
      subst hnn
      refine ⟨.slice none 0 0, w, ?_, Own.nil _ _, Mod.refl _ _, LocV.refl _ _⟩
      exact run_append_nothing (P := P) w t tx ty e i ht hi none 0 0 (Nat.le_refl _) x hsrc
    · exact grown 0 none rfl (by omega) (run_firstCells_none w.drew i.size 0 0 0)
  · have holds : ∀ j u, xs[j]? = some u → w.cell? ((⟨g, 0, none⟩ : Addr).add j) = some u := fun j u hj => by
      rw [addr_add]; exact hc j u hj
    by_cases hroom : n + m ≤ cap
    · have hfit : ∀ j, j < news.length → 0 + n * i.size + j < cap * i.size := fun j hj => by
        rw [hsrc.newsLen] at hj
        have := Nat.mul_le_mul_right i.size hroom
        rw [Nat.add_mul] at this; omega
      have hr := run_append_room_src (P := P) w t tx ty e i ht hi g 0 n cap x m news hsrc hroom (fun j hj => (hf _ (hfit j hj)).1) (fun j hj => (hf _ (hfit j hj)).2)
      refine ⟨_, _, hr, ⟨hlen, .inr ⟨g, cap, rfl, hroom, ?_, ?_⟩⟩, (setCells_mod g news _ w).imp fun k _ h => ?_, .inl rfl⟩
      · intro j u hj
        rw [show (0 : Nat) + j = j from Nat.zero_add j]
        by_cases h : j < xs.length
        · rw [List.getElem?_append_left h] at hj
          rw [World.cell?_setCells_out g news _ w _ (fun _ _ => .inl (by rw [ho.1] at h; show j < 0 + n * i.size; omega))]
          have := hc j u hj
          rwa [Nat.zero_add] at this
        · rw [List.getElem?_append_right (by omega)] at hj
          obtain ⟨hlt, rfl⟩ := List.getElem?_eq_some_iff.1 hj
          have := World.cell?_setCells_in g news (0 + n * i.size) w (fun j hj => (hf _ (hfit j hj)).1) (j - xs.length) hlt
          rwa [show 0 + n * i.size + (j - xs.length) = j by rw [← ho.1]; omega] at this
      · intro j hj
        obtain ⟨h1, h2⟩ := hf j hj
        exact ⟨World.isSome_setCells g news _ w _ h1, by rw [World.frozen?_setCells]; exact h2⟩
      · subst h; rfl
    · exact grown cap (some ⟨g, 0, none⟩) rfl (by omega) (run_firstCells_some w.drew i.size n ⟨g, 0, none⟩ n cap xs ho.1 (by simpa using holds))
section ops
variable {P : Program} {ops : Array Oper} {l : List Oper} {n : Nat} {f : Fr} {w : World} {Q : Exit → Fr → World → Prop}
variable {d : Nat} {ty : TypeId} {pos : String} {aft : Array Edge}
theorem WL.append {t tx e size bytes : Nat} {zs : Array Value} {a x : Operand} {v vx : Value} {k m : Nat} {xs news : List Value} (ha : appT P t = some (e, size, bytes, zs)) (hzs : zs.size = size) (hv : ev f a = v) (hx : ev f x = vx)
    (ho : Own w size v k xs) (hsrc : Src P size tx vx m news w) (h63 : k + m ≤ 9223372036854775807) (hb : (k + m) * bytes ≤ 140737488355328) (hd : decide (d < n) = true)
    (kk : ∀ v' w', Own w' size v' (k + m) (xs ++ news) → Mod (At v) w w' → LocV w v v' → WL P ops l n (upd f d v') w' Q) :
    WL P ops (⟨some d, .call { callee := .builtin .append, args := #[a, x], argTypes := #[t, tx] }, ty, pos, aft, none⟩ :: l) n f w Q := by
  obtain ⟨v', w', hr, h1, h2, h3⟩ := append_own (ty := ty) ha hzs ho hsrc h63 hb
  refine WL.val rfl hd (v := v') (w' := w') ?_ (kk v' w' h1 h2 h3)
  simp only [execOp, resolve, invoke, builtin, Sem.run_bind, Sem.run_pure, Result.andThen_ok, List.map_toArray, List.map_cons, List.map_nil, hv, hx, hr]
end ops
/-- What a slice that may be read yields to an append. -/
theorem Sl.src {P : Program} {w : World} {size : Nat} {v : Value} {n : Nat} {xs : List Value} {tx e' : TypeId} (h : Sl w v size n xs) (hk : P.underlying tx = some (.slice e')) (h1 : ∀ u ∈ xs, u.oneCell' = true) : Src P size tx v n xs w := by
  obtain ⟨ao, cap, rfl, hn, hl, h0⟩ := h
  cases ao with
  | none =>
    have hn0 : n = 0 := by
      rcases h0 with h0 | ⟨b, o, h, _⟩
      · exact h0
      · cases h
    subst hn0
    have : xs = [] := List.eq_nil_of_length_eq_zero (by simpa using hl)
    subst this
    exact Src.ofNil w hk cap
  | some a =>
    refine Src.ofSlice w hk a n cap xs hl ?_ h1
    rcases h0 with rfl | ⟨b, o, h, hc⟩
    · have : xs = [] := List.eq_nil_of_length_eq_zero (by simpa using hl)
      subst this
      intro j u hj; simp at hj
    · cases h
      intro j u hj
      rw [addr_add]; exact hc j u hj
end Go.Ux
end
section
/- The walking engine: strings and bytes; tests of strings and of structs; maps from strings to counts; pointers that are not nil. -/
namespace Go.Ux
open Go
/-- Bytes as cells; bytes as a string. -/
def bs (l : List UInt8) : List Value := l.map fun b => Value.int .u8 (b.toNat : Int)
def St (l : List UInt8) : Value := .string ⟨l.toArray⟩
theorem bs_length (l : List UInt8) : (bs l).length = l.length := by simp [bs]
theorem bs_append (a b : List UInt8) : bs (a ++ b) = bs a ++ bs b := by simp [bs]
theorem bs_one (l : List UInt8) : ∀ u ∈ bs l, u.oneCell' = true := by
  intro u hu; simp only [bs, List.mem_map] at hu; obtain ⟨b, _, rfl⟩ := hu; rfl
theorem bs_inj {a b : List UInt8} (h : bs a = bs b) : a = b := by
  induction a generalizing b with
  | nil => cases b with
    | nil => rfl
    | cons y t => simp [bs] at h
  | cons x s ih => cases b with
    | nil => simp [bs] at h
    | cons y t =>
      simp only [bs, List.map_cons, List.cons.injEq, Value.int.injEq, true_and] at h
      have h1 : x = y := UInt8.toNat_inj.1 (by omega)
      rw [h1, ih h.2]
theorem bs_get (l : List UInt8) (j : Nat) (h : j < l.length) : (bs l)[j]? = some (.int .u8 (l[j].toNat : Int)) := by simp [bs, h]
theorem St_str (s : ByteArray) : (.string s : Value) = St s.data.toList := by simp [St]
section
variable {P : Program} {t : TypeId}
theorem bytesEq (a b : List UInt8) : ((⟨a.toArray⟩ : ByteArray) == ⟨b.toArray⟩) = (a == b) := by
  show (a.toArray == b.toArray) = (a == b)
  simp
theorem BinR.eqlS {a b : List UInt8} : BinR P .eql t (St a) (St b) (.bool (a == b)) := fun x y w => by
  simp [eqGuard, binOp, St, Op.stringOp, ByteArray.toList_eq]
theorem BinR.neqS {a b : List UInt8} : BinR P .neq t (St a) (St b) (.bool (a != b)) := fun x y w => by
  simp [eqGuard, binOp, St, Op.stringOp, bne, ByteArray.toList_eq]
/-- string(b) -/
theorem ConvR.toString {s u e : TypeId} (hs : P.underlying s = some (.slice e)) (he : P.underlying e = some (.int .u8)) (hd : P.underlying u = some .string) {w : World} {v : Value} {n : Nat} {l : List UInt8} (h : Sl w v 1 n (bs l)) :
    (convert s u v).run P w = .ok (St l) w := by
  obtain ⟨ao, cap, rfl, hn, hl, h0⟩ := h
  have hl' : l.length = n := by rw [bs_length] at hl; omega
  subst hl'
  cases ao with
  | none =>
    have hn0 : l.length = 0 := by
      rcases h0 with h0 | ⟨b, o, h, _⟩
      · exact h0
      · cases h
    have : l = [] := List.eq_nil_of_length_eq_zero hn0
    subst this
    exact Go.Lib.run_convert_nil_bytes w s u e cap hs he hd
  | some a =>
    refine run_convert_bytes_back w s u e a cap l hs he hd fun j hj => ?_
    rcases h0 with h0 | ⟨b, o, h, hc⟩
    · omega
    · cases h
      rw [addr_add]
      exact hc j _ (bs_get l j hj)
theorem bytesRow_bs (l : List UInt8) (cap : Nat) : bytesRow ⟨l.toArray⟩ cap = ((bs l).toArray ++ Array.replicate (cap - l.length) (.int .u8 0)) := by
  simp only [bytesRow, bs]
  congr 1
  apply Array.ext'
  simp
theorem frozen_alloc_mark (w : World) (C : Array Value) (t : TypeId) (fr : Nat × Nat) (j : Nat) : (w.alloc (.cells C t fr)).frozen? ⟨w.heap.size, j, none⟩ = (decide (fr.1 ≤ j) && decide (j < fr.2)) := by
  have : (w.alloc (.cells C t fr)).heap[w.heap.size]? = some (.cells C t fr) := heap_alloc_new w _
  unfold World.frozen?
  rw [this]
/-- []byte(s) -/
theorem conv_bytes {s u e : TypeId} (hs : P.underlying s = some .string) (hd : P.underlying u = some (.slice e)) (he : P.underlying e = some (.int .u8)) (w : World) (l : List UInt8) :
    ∃ v' w', (convert s u (St l)).run P w = .ok v' w' ∧ Own w' 1 v' l.length (bs l) ∧ Ext w w' ∧ From w.heap.size v' ∧ w'.heap.size = w.heap.size + 1 := by
  have hr := run_bytes_of_string (P := P) w s u e ⟨l.toArray⟩ hs hd he
  have hge := grownCap_ge w l.length 0 e
  have hsz : (⟨l.toArray⟩ : ByteArray).size = l.length := by simp [ByteArray.size]
  rw [bytesRow_bs, hsz] at hr
  have hcs : ((bs l).toArray ++ Array.replicate (grownCap w l.length 0 e - l.length) (Value.int .u8 0)).size = grownCap w l.length 0 e := by
    rw [Array.size_append]; simp [bs_length]; omega
  refine ⟨_, _, hr, ⟨by rw [bs_length, Nat.mul_one], .inr ⟨w.heap.size, _, rfl, hge, ?_, ?_⟩⟩, (Mod.drew _ w).trans (alloc_ext w.drew _), ?_, by simp⟩
  · intro j u hj
    rw [show (0 : Nat) + j = j from Nat.zero_add j]
    have hlt : j < (bs l).length := (List.getElem?_eq_some_iff.1 hj).1
    have := World.cell?_alloc_mark w.drew ((bs l).toArray ++ Array.replicate (grownCap w l.length 0 e - l.length) (Value.int .u8 0)) e
    refine (this _ j).trans ?_
    rw [Array.getElem?_append_left (by simpa using hlt)]
    simpa using hj
  · intro j hj
    rw [Nat.mul_one] at hj
    have := World.cell?_alloc_mark w.drew ((bs l).toArray ++ Array.replicate (grownCap w l.length 0 e - l.length) (Value.int .u8 0)) e
    refine ⟨?_, ?_⟩
    · rw [show (w.drew.alloc _).cell? ⟨w.heap.size, j, none⟩ = _ from this _ j]
      rw [Array.getElem?_eq_getElem (by rw [hcs]; exact hj)]; rfl
    · refine (frozen_alloc_mark w.drew _ e _ j).trans ?_
      rw [hcs]
      simp only [Bool.and_eq_false_iff, decide_eq_false_iff_not]
      left; omega
  · intro g hg; simp only [Value.ownBlock, Option.some.injEq] at hg; omega
end
section ops
variable {P : Program} {ops : Array Oper} {l : List Oper} {n : Nat} {f : Fr} {w : World} {Q : Exit → Fr → World → Prop}
variable {d : Nat} {ty : TypeId} {pos : String} {aft : Array Edge}
theorem WL.toString {s u e : TypeId} {x : Operand} {v : Value} {m : Nat} {bl : List UInt8} (hs : P.underlying s = some (.slice e)) (he : P.underlying e = some (.int .u8)) (hu : P.underlying u = some .string) (hx : ev f x = v) (h : Sl w v 1 m (bs bl)) (hd : decide (d < n) = true)
    (k : WL P ops l n (upd f d (St bl)) w Q) : WL P ops (⟨some d, .convert s u x, ty, pos, aft, none⟩ :: l) n f w Q :=
  WL.val rfl hd (v := St bl) (w' := w) (by simp only [execOp, hx]; rw [Sem.run_bind, ConvR.toString hs he hu h]; simp [Result.andThen]) k
theorem WL.toBytes {s u e : TypeId} {x : Operand} {bl : List UInt8} (hs : P.underlying s = some .string) (hu : P.underlying u = some (.slice e)) (he : P.underlying e = some (.int .u8)) (hx : ev f x = St bl) (hd : decide (d < n) = true)
    (k : ∀ v' w', Own w' 1 v' bl.length (bs bl) → Ext w w' → From w.heap.size v' → WL P ops l n (upd f d v') w' Q) : WL P ops (⟨some d, .convert s u x, ty, pos, aft, none⟩ :: l) n f w Q := by
  obtain ⟨v', w', hr, h1, h2, h3, _⟩ := conv_bytes hs hu he w bl
  exact WL.val rfl hd (v := v') (w' := w') (by simp only [execOp, hx]; rw [Sem.run_bind, hr]; simp [Result.andThen]) (k v' w' h1 h2 h3)
theorem WL.lenSt {t : Nat} {x : Operand} {bl : List UInt8} (ht : P.underlying t = some .string) (hx : ev f x = St bl) (hd : decide (d < n) = true) (k : WL P ops l n (upd f d (IN bl.length)) w Q) :
    WL P ops (⟨some d, .call { callee := .builtin .len, args := #[x], argTypes := #[t] }, ty, pos, aft, none⟩ :: l) n f w Q :=
  WL.lenStr ht hx hd (by simpa [ByteArray.size] using k)
theorem WL.nilCheck {x : Operand} {a : Addr} (hx : ev f x = .pointer (some a)) (hd : decide (d < n) = true) (k : WL P ops l n (upd f d (.pointer (some a))) w Q) :
    WL P ops (⟨some d, .nilCheck x, ty, pos, aft, none⟩ :: l) n f w Q :=
  WL.val rfl hd (v := .pointer (some a)) (w' := w) (by simp [execOp, hx]) k
/-- A literal row of bytes, turned into a slice of bytes: it gets the mark of a string. -/
theorem WL.bytesConst {t e : Nat} {x : Operand} {g m : Nat} {bl : List UInt8} (ht : P.underlying t = some (.slice e)) (he : P.underlying e = some (.int .u8)) (hx : ev f x = .slice (some ⟨g, 0, none⟩) m m) (hm : bl.length = m) (hB : Blk w g (bs bl).toArray e) (hd : decide (d < n) = true)
    (k : ∀ w', Own w' 1 (.slice (some ⟨g, 0, none⟩) m m) m (bs bl) → Mod (· = g) w w' → WL P ops l n (upd f d (.slice (some ⟨g, 0, none⟩) m m)) w' Q) : WL P ops (⟨some d, .convert t t x, ty, pos, aft, none⟩ :: l) n f w Q := by
  have hg : w.heap[g]? = some (.cells (bs bl).toArray e (0, 0)) := hB
  have hsh : w.shape? g = some (e, m) := by unfold World.shape?; rw [hg]; simp [bs_length, hm]
  have hnew : (w.freeze ⟨g, m, none⟩ 1).heap[g]? = some (.cells (bs bl).toArray e (m, m + 1)) := by
    unfold World.freeze
    rw [if_neg (by decide)]
    simp only [Array.getElem?_modify, if_true, hg, Option.map_some]
    rfl
  have hother : ∀ k, k ≠ g → (w.freeze ⟨g, m, none⟩ 1).heap[k]? = w.heap[k]? := fun k hk => by
    unfold World.freeze
    rw [if_neg (by decide)]
    simp [Array.getElem?_modify, Ne.symm hk]
  have hsize : (w.freeze ⟨g, m, none⟩ 1).heap.size = w.heap.size := by unfold World.freeze; rw [if_neg (by decide)]; simp
  refine WL.val rfl hd (v := .slice (some ⟨g, 0, none⟩) m m) (w' := w.freeze ⟨g, m, none⟩ 1) ?_ (k _ ⟨by rw [bs_length, hm, Nat.mul_one], .inr ⟨g, m, rfl, Nat.le_refl _, ?_, ?_⟩⟩ ?_)
  · have : (convert t t (.slice (some ⟨g, 0, none⟩) m m)).run P w = .ok (.slice (some ⟨g, 0, none⟩) m m) (w.freeze ⟨g, m, none⟩ 1) := by
      simp [convert, run_underlying ht, run_underlying he, markStringish, hsh]
    simp only [execOp, hx]; rw [Sem.run_bind, this]; simp [Result.andThen]
  · intro j u hj
    rw [show (0 : Nat) + j = j from Nat.zero_add j]
    unfold World.cell?
    rw [hnew]; simpa using hj
  · intro j hj
    rw [Nat.mul_one] at hj
    refine ⟨?_, ?_⟩
    · unfold World.cell?; rw [hnew]; simp [bs_length, hm, hj]
    · unfold World.frozen?; rw [hnew]; simp only [Bool.and_eq_false_iff, decide_eq_false_iff_not]; left; omega
  · have h1 : (w.freeze ⟨g, m, none⟩ 1).os = w.os ∧ (w.freeze ⟨g, m, none⟩ 1).tape = w.tape ∧ (w.freeze ⟨g, m, none⟩ 1).output = w.output := by unfold World.freeze; rw [if_neg (by decide)]; exact ⟨rfl, rfl, rfl⟩
    exact ⟨h1.1, h1.2.1, h1.2.2, by omega, fun k _ hk => hother k hk⟩
/-- max(a, b) of two ints -/
theorem WL.max2 {x y : Operand} {a b : Int} {t t' : Nat} (hx : ev f x = .int .i64 a) (hy : ev f y = .int .i64 b) (hd : decide (d < n) = true) (k : WL P ops l n (upd f d (.int .i64 (max a b))) w Q) :
    WL P ops (⟨some d, .call { callee := .builtin .max, args := #[x, y], argTypes := #[t, t'] }, ty, pos, aft, none⟩ :: l) n f w Q := by
  refine WL.val rfl hd (v := .int .i64 (max a b)) (w' := w) ?_ k
  simp [execOp, resolve, invoke, builtin, hx, hy, Builtin.max_, Builtin.max2]
  split <;> omega
end ops
end Go.Ux
end
