/- The walking engine: the weakest precondition of the model's code over frames read as functions from slots to values; no program in sight. -/
import Derived.WalkKit
import Derived.Orders
namespace Go.Ux
open Go

abbrev Fr := Nat → Value

def upd (f : Fr) (d : Nat) (v : Value) : Fr := fun t => if t = d then v else f t
theorem upd_same (f : Fr) (d : Nat) (v : Value) : upd f d v d = v := by simp [upd]
theorem upd_other (f : Fr) (d t : Nat) (v : Value) (h : t ≠ d) : upd f d v t = f t := by simp [upd, h]

def updO (f : Fr) : Option Nat → Value → Fr
  | some d, v => upd f d v
  | none, _ => f

def frOf (a : Act) : Fr := fun t => a.tmps.getD t undef

def ev (f : Fr) : Operand → Value
  | .tmp t => f t
  | .const v => v
  | .global g => .pointer (some ⟨g, 0, none⟩)
  | .func g => .func (.func g) #[] #[]

theorem eval_eq (a : Act) : a.eval = ev (frOf a) := by
  funext x; cases x <;> rfl

theorem frOf_put (a : Act) (d : Nat) (v : Value) (h : d < a.tmps.size) : frOf (a.put (some d) v) = upd (frOf a) d v := by
  funext t
  simp only [frOf, Act.put, upd, Array.getD_eq_getD_getElem?, Array.getElem?_setIfInBounds]
  by_cases e : d = t
  · subst e; simp [h]
  · rw [if_neg e, if_neg (fun h => e h.symm)]

theorem frOf_putO (a : Act) (d : Option Nat) (v : Value) (h : ∀ k, d = some k → k < a.tmps.size) : frOf (a.put d v) = updO (frOf a) d v := by
  cases d with
  | none => rfl
  | some k => exact frOf_put a k v (h k rfl)

theorem size_put (a : Act) (d : Option Nat) (v : Value) : (a.put d v).tmps.size = a.tmps.size := by
  cases d <;> simp [Act.put]
theorem defers_put (a : Act) (d : Option Nat) (v : Value) : (a.put d v).defers = a.defers := by
  cases d <;> rfl

/-- The post of a piece of code, over frames as functions. -/
def Post (n : Nat) (Q : Exit → Fr → World → Prop) : Exit → Act → World → Prop :=
  fun e a w => a.tmps.size = n ∧ a.defers = [] ∧ Q e (frOf a) w

def WC (P : Program) (c : Code) (n : Nat) (f : Fr) (w : World) (Q : Exit → Fr → World → Prop) : Prop :=
  ∀ a : Act, a.tmps.size = n → a.defers = [] → frOf a = f → c.wp P (Post n Q) a w

def WL (P : Program) (ops : Array Oper) (l : List Oper) (n : Nat) (f : Fr) (w : World) (Q : Exit → Fr → World → Prop) : Prop :=
  ∀ a : Act, a.tmps.size = n → a.defers = [] → frOf a = f → wpList P ops (Post n Q) l a w

section code
variable {P : Program} {n : Nat} {f : Fr} {w : World} {Q : Exit → Fr → World → Prop}

theorem WC.mono {c : Code} {Q' : Exit → Fr → World → Prop} (h : WC P c n f w Q) (hq : ∀ e f w, Q e f w → Q' e f w) : WC P c n f w Q' :=
  fun a h1 h2 h3 => Code.wp_mono (fun _ _ _ h => ⟨h.1, h.2.1, hq _ _ _ h.2.2⟩) (h a h1 h2 h3)

/-- A cut: what a piece of code leaves, where the ways through it meet again. -/
theorem WC.cut {c : Code} (R : Fr → World → Prop) (h : WC P c n f w (fun e f' w' => e = .normal ∧ R f' w')) (k : ∀ f' w', R f' w' → Q .normal f' w') : WC P c n f w Q :=
  h.mono fun _ f' w' ⟨he, hr⟩ => by subst he; exact k f' w' hr

theorem WC.skip (h : Q .normal f w) : WC P .skip n f w Q := fun _ h1 h2 h3 => wp_skip ⟨h1, h2, by rw [h3]; exact h⟩
theorem WC.ret (h : Q .ret f w) : WC P .ret n f w Q := fun _ h1 h2 h3 => wp_ret ⟨h1, h2, by rw [h3]; exact h⟩
theorem WC.exit {id : Nat} (h : Q (.exit id) f w) : WC P (.exit id) n f w Q := fun _ h1 h2 h3 => wp_exit ⟨h1, h2, by rw [h3]; exact h⟩

def Then (n : Nat) (P : Program) (y : Code) (Q : Exit → Fr → World → Prop) : Exit → Fr → World → Prop
  | .normal, f, w => WC P y n f w Q
  | e, f, w => Q e f w

theorem WC.seq {x y : Code} (h : WC P x n f w (Then n P y Q)) : WC P (.seq x y) n f w Q := by
  intro a h1 h2 h3
  refine wp_seq (Code.wp_mono ?_ (h a h1 h2 h3))
  rintro e a' w' ⟨k1, k2, k3⟩
  cases e with
  | normal => exact k3 a' k1 k2 rfl
  | exit id => exact ⟨k1, k2, k3⟩
  | goto l => exact ⟨k1, k2, k3⟩
  | ret => exact ⟨k1, k2, k3⟩
  | panic c => exact ⟨k1, k2, k3⟩
  | outgrown => exact ⟨k1, k2, k3⟩

theorem WC.cond {c : Operand} {x y : Code} {t : Bool} (hc : ev f c = .bool t) (ht : t = true → WC P x n f w Q) (hf : t = false → WC P y n f w Q) : WC P (.cond c x y) n f w Q := by
  intro a h1 h2 h3
  refine wp_cond_split (t := t) (by rw [eval_eq, h3]; exact hc) (fun e => ht e a h1 h2 h3) (fun e => hf e a h1 h2 h3)
theorem WC.condT {c : Operand} {x y : Code} (hc : ev f c = .bool true) (h : WC P x n f w Q) : WC P (.cond c x y) n f w Q :=
  WC.cond hc (fun _ => h) (fun e => by cases e)
theorem WC.condF {c : Operand} {x y : Code} (hc : ev f c = .bool false) (h : WC P y n f w Q) : WC P (.cond c x y) n f w Q :=
  WC.cond hc (fun e => by cases e) (fun _ => h)

def InB (id : Nat) (Q : Exit → Fr → World → Prop) : Exit → Fr → World → Prop
  | .exit id', f, w => if id' = id then Q .normal f w else Q (.exit id') f w
  | e, f, w => Q e f w

theorem WC.block {id : Nat} {c : Code} (h : WC P c n f w (InB id Q)) : WC P (.block id c) n f w Q := by
  intro a h1 h2 h3
  refine wp_block (Code.wp_mono ?_ (h a h1 h2 h3))
  rintro e a' w' ⟨k1, k2, k3⟩
  cases e with
  | exit id' =>
    simp only [InB] at k3
    simp only [Exit.inBlock]
    split
    · rename_i he; rw [if_pos he] at k3; exact ⟨k1, k2, k3⟩
    · rename_i he; rw [if_neg he] at k3; exact ⟨k1, k2, k3⟩
  | normal => exact ⟨k1, k2, k3⟩
  | goto l => exact ⟨k1, k2, k3⟩
  | ret => exact ⟨k1, k2, k3⟩
  | panic c => exact ⟨k1, k2, k3⟩
  | outgrown => exact ⟨k1, k2, k3⟩

theorem min_of (p : Nat → Prop) (h : ∃ k, p k) : ∃ k, p k ∧ ∀ j, p j → k ≤ j := by
  obtain ⟨k, hk⟩ := h
  induction k using Nat.strongRecOn with
  | _ k ih =>
    by_cases hex : ∃ j, j < k ∧ p j
    · obtain ⟨j, hj, hpj⟩ := hex
      exact ih j hj hpj
    · exact ⟨k, hk, fun j hj => Nat.le_of_not_lt fun hlt => hex ⟨j, hlt, hj⟩⟩

/-- What a round leaves: another one with a smaller number, or a way out. -/
def Round (I : Nat → Fr → World → Prop) (Q : Exit → Fr → World → Prop) (k : Nat) : Exit → Fr → World → Prop
  | .normal, f, w => ∃ j, j < k ∧ I j f w
  | e, f, w => Q e f w

/-- A loop: 'I k': what holds at a round's head, with at most k rounds behind it. -/
theorem WC.loop {c : Code} (I : Nat → Fr → World → Prop) (k : Nat) (h0 : I k f w)
    (round : ∀ k f w, I k f w → WC P c n f w (Round I Q k)) : WC P (.loop c) n f w Q := by
  intro a h1 h2 h3
  let J : Act → World → Prop := fun a w => a.tmps.size = n ∧ a.defers = [] ∧ ∃ k, I k (frOf a) w
  have hμ : ∀ a w, ∃ m, J a w → I m (frOf a) w ∧ ∀ j, I j (frOf a) w → m ≤ j := fun a w => by
    by_cases h : J a w
    · obtain ⟨m, hm, hl⟩ := min_of (fun k => I k (frOf a) w) h.2.2
      exact ⟨m, fun _ => ⟨hm, hl⟩⟩
    · exact ⟨0, fun h' => (h h').elim⟩
  let μ : Act → World → Nat := fun a w => Classical.choose (hμ a w)
  have hspec : ∀ a w, J a w → I (μ a w) (frOf a) w ∧ ∀ j, I j (frOf a) w → μ a w ≤ j := fun a w => Classical.choose_spec (hμ a w)
  refine wp_loop J μ ⟨h1, h2, k, by rw [h3]; exact h0⟩ ?_
  intro a w hJ
  obtain ⟨hI, hmin⟩ := hspec a w hJ
  refine Code.wp_mono ?_ (round (μ a w) (frOf a) w hI a hJ.1 hJ.2.1 rfl)
  rintro e a' w' ⟨k1, k2, k3⟩
  cases e with
  | normal =>
    obtain ⟨j, hj, hIj⟩ := k3
    have hJ' : J a' w' := ⟨k1, k2, j, hIj⟩
    exact ⟨hJ', Nat.lt_of_le_of_lt ((hspec a' w' hJ').2 j hIj) hj⟩
  | exit id' => exact ⟨k1, k2, k3⟩
  | goto l => exact ⟨k1, k2, k3⟩
  | ret => exact ⟨k1, k2, k3⟩
  | panic c => exact ⟨k1, k2, k3⟩
  | outgrown => exact ⟨k1, k2, k3⟩

theorem WC.region {id : Nat} {l : List Oper} (h : WL P l.toArray l n f w Q) : WC P (.region id l.toArray false) n f w Q :=
  fun a h1 h2 h3 => wp_region_lit (h a h1 h2 h3)

end code

section lists
variable {P : Program} {ops : Array Oper} {l : List Oper} {n : Nat} {f : Fr} {w : World} {Q : Exit → Fr → World → Prop} {o : Oper}

theorem WL.nil (h : Q .normal f w) : WL P ops [] n f w Q := fun _ h1 h2 h3 => ⟨h1, h2, by rw [h3]; exact h⟩

def dstOk (n : Nat) : Option Nat → Bool
  | some d => decide (d < n)
  | none => true

theorem dstOk_spec {n : Nat} {d : Option Nat} (h : dstOk n d = true) : ∀ k, d = some k → k < n := by
  intro k e; subst e; simpa [dstOk] using h

/-- An operation that yields a value. -/
theorem WL.val {v : Value} {w' : World} (hg : o.guard = none) (hd : dstOk n o.dst = true) (hr : (execOp (ev f) o).run P w = .ok (.value v) w')
    (k : WL P ops l n (updO f o.dst v) w' Q) : WL P ops (o :: l) n f w Q := by
  intro a h1 h2 h3
  refine wpList_plain hg fun K hK => ?_
  unfold Oper.wp
  rw [eval_eq, h3, hr]
  refine hK _ _ (k _ (by rw [size_put, h1]) (by rw [defers_put, h2]) ?_)
  rw [frOf_putO _ _ _ (by rw [h1]; exact dstOk_spec hd), h3]

/-- An operation that yields nothing. -/
theorem WL.skp {w' : World} (hg : o.guard = none) (hd : o.dst = none) (hr : (execOp (ev f) o).run P w = .ok .skip w')
    (k : WL P ops l n f w' Q) : WL P ops (o :: l) n f w Q := by
  intro a h1 h2 h3
  refine wpList_plain hg fun K hK => ?_
  unfold Oper.wp
  rw [eval_eq, h3, hr]
  refine hK _ _ (k _ (by rw [size_put, h1]) (by rw [defers_put, h2]) ?_)
  rw [hd]; exact h3

/-- What a call hands back. -/
def CallsR (P : Program) (g : Nat) (args : Array Value) (w : World) (S : Value → World → Prop) : Prop :=
  Calls P g args w fun e w' => ∃ v, e = .returned v ∧ S v w'

theorem CallsR.mono {g : Nat} {args : Array Value} {w : World} {S S' : Value → World → Prop} (h : CallsR P g args w S) (hs : ∀ v w', S v w' → S' v w') : CallsR P g args w S' :=
  Calls.mono h fun _ _ ⟨v, he, hv⟩ => ⟨v, he, hs v _ hv⟩

theorem WL.enter {g : Nat} {args : Array Value} {S : Value → World → Prop} (hg : o.guard = none) (hd : dstOk n o.dst = true)
    (hr : (execOp (ev f) o).run P w = .ok (.enter g args) w) (c : CallsR P g args w S)
    (k : ∀ v w', S v w' → WL P ops l n (updO f o.dst v) w' Q) : WL P ops (o :: l) n f w Q := by
  intro a h1 h2 h3
  refine wpList_plain hg fun K hK => ?_
  unfold Oper.wp
  rw [eval_eq, h3, hr]
  refine Calls.mono c ?_
  rintro e w' ⟨v, rfl, hv⟩
  refine hK _ _ (k v w' hv _ (by rw [size_put, h1]) (by rw [defers_put, h2]) ?_)
  rw [frOf_putO _ _ _ (by rw [h1]; exact dstOk_spec hd), h3]

/-- What operation j yields to the guards. -/
def yf (ops : Array Oper) (f : Fr) (j : Nat) : Option Bool :=
  match (ops[j]?).bind (·.dst) with
  | some d => match f d with
    | .bool b => some b
    | _ => none
  | none => none

theorem yielded_eq (a : Act) (j : Nat) (b : Bool) (h : yf ops (frOf a) j = some b) : yielded ops a.tmps j = some b := by
  unfold yf at h
  unfold yielded
  cases hd : (ops[j]?).bind (·.dst) with
  | none => rw [hd] at h; cases h
  | some d =>
    rw [hd] at h
    simp only [frOf, Array.getD_eq_getD_getElem?] at h
    simp only [Option.bind_some]
    cases hv : a.tmps[d]? with
    | none => rw [hv] at h; simp [undef] at h
    | some v =>
      rw [hv] at h
      simp only [Option.getD_some] at h
      cases v <;> simp_all

theorem WL.guardT {d : Option Nat} {op : Op} {ty : TypeId} {pos : String} {aft : Array Edge} {j : Nat} {b : Bool} (hj : yf ops f j = some b)
    (k : WL P ops (⟨d, op, ty, pos, aft, none⟩ :: l) n f w Q) : WL P ops (⟨d, op, ty, pos, aft, some (j, b)⟩ :: l) n f w Q := by
  intro a h1 h2 h3
  have h := k a h1 h2 h3
  have hw : Region.wanted (⟨d, op, ty, pos, aft, some (j, b)⟩ : Oper) (yielded ops a.tmps) = true := by
    simp only [Region.wanted]
    rw [yielded_eq a j b (by rw [h3]; exact hj)]; simp
  unfold wpList at h ⊢
  rw [if_pos (by simp [Region.wanted])] at h
  rw [if_pos hw]
  exact h

theorem WL.guardF {d : Option Nat} {op : Op} {ty : TypeId} {pos : String} {aft : Array Edge} {j : Nat} {b b' : Bool} (hj : yf ops f j = some b') (hne : (b' == b) = false) (hd : dstOk n d = true)
    (k : WL P ops l n (updO f d undef) w Q) : WL P ops (⟨d, op, ty, pos, aft, some (j, b)⟩ :: l) n f w Q := by
  intro a h1 h2 h3
  have hw : Region.wanted (⟨d, op, ty, pos, aft, some (j, b)⟩ : Oper) (yielded ops a.tmps) = false := by
    simp only [Region.wanted]
    rw [yielded_eq a j b' (by rw [h3]; exact hj)]
    simpa using hne
  unfold wpList
  rw [if_neg (by rw [hw]; simp)]
  refine k _ (by rw [size_put, h1]) (by rw [defers_put, h2]) ?_
  rw [frOf_putO _ _ _ (by rw [h1]; exact dstOk_spec hd), h3]

theorem yielded_none (a : Act) (j : Nat) (h : yf ops (frOf a) j = none) : yielded ops a.tmps j = none := by
  unfold yf at h
  unfold yielded
  cases hd : (ops[j]?).bind (·.dst) with
  | none => rfl
  | some d =>
    rw [hd] at h
    simp only [frOf, Array.getD_eq_getD_getElem?] at h
    simp only [Option.bind_some]
    cases hv : a.tmps[d]? with
    | none => rfl
    | some v =>
      rw [hv] at h
      simp only [Option.getD_some] at h
      cases v <;> simp_all
theorem WL.guardU {d : Option Nat} {op : Op} {ty : TypeId} {pos : String} {aft : Array Edge} {j : Nat} {b : Bool} (hj : yf ops f j = none) (hd : dstOk n d = true)
    (k : WL P ops l n (updO f d undef) w Q) : WL P ops (⟨d, op, ty, pos, aft, some (j, b)⟩ :: l) n f w Q := by
  intro a h1 h2 h3
  have hw : Region.wanted (⟨d, op, ty, pos, aft, some (j, b)⟩ : Oper) (yielded ops a.tmps) = false := by
    simp only [Region.wanted]
    rw [yielded_none a j (by rw [h3]; exact hj)]; rfl
  unfold wpList
  rw [if_neg (by rw [hw]; simp)]
  refine k _ (by rw [size_put, h1]) (by rw [defers_put, h2]) ?_
  rw [frOf_putO _ _ _ (by rw [h1]; exact dstOk_spec hd), h3]

end lists

section calls
variable {P : Program}

/-- The results of a function, read off its frame. -/
def Res (P : Program) (fn : Func) (n : Nat) (f : Fr) (w : World) (v : Value) : Prop :=
  ∀ a : Act, a.tmps.size = n → frOf a = f → (results fn a.tmps).run P w = .ok v w

def Fin (P : Program) (fn : Func) (n : Nat) (S : Value → World → Prop) : Exit → Fr → World → Prop
  | .normal, f, w | .ret, f, w => ∃ v, Res P fn n f w v ∧ S v w
  | _, _, _ => False

theorem callsR_of {i : Nat} {fn : Func} {c : Code} {args : Array Value} {w : World} {n : Nat} {S : Value → World → Prop} (hf : P.funcs[i]? = some fn) (hb : fn.body = some c)
    (hn : fn.ntmps = n) (ha' : decide (args.size ≤ n) = true) (h : WC P c n (fun t => args.getD t undef) w (Fin P fn n S)) : CallsR P i args w S := by
  have ha : args.size ≤ n := of_decide_eq_true ha'
  refine calls_of_wp hf hb ?_
  have hsz : (args ++ Array.replicate (fn.ntmps - args.size) undef).size = n := by simp; omega
  refine Code.wp_mono ?_ (h ⟨args ++ Array.replicate (fn.ntmps - args.size) undef, []⟩ hsz rfl ?_)
  · rintro e a w' ⟨k1, k2, k3⟩
    cases e with
    | normal => obtain ⟨v, hv, hs⟩ := k3; exact ⟨k2, v, hv a k1 rfl, v, rfl, hs⟩
    | ret => obtain ⟨v, hv, hs⟩ := k3; exact ⟨k2, v, hv a k1 rfl, v, rfl, hs⟩
    | exit id => exact k3.elim
    | goto l => exact k3.elim
    | panic c => exact k3.elim
    | outgrown => exact k3.elim
  · funext t
    simp only [frOf, Array.getD_eq_getD_getElem?, Array.getElem?_append]
    split
    · rfl
    · rename_i hlt
      rw [Array.getElem?_eq_none (xs := args) (by omega)]
      simp only [Array.getElem?_replicate]
      split <;> rfl

theorem Res.one {fn : Func} {n : Nat} {f : Fr} {w : World} {t : Nat} {v : Value} (h : fn.results = #[.tmp t]) (hv : f t = v) : Res P fn n f w v := by
  intro a _ ha
  rw [results_tmp h, ← hv, ← ha]; rfl
theorem Res.two {fn : Func} {n : Nat} {f : Fr} {w : World} {t u : Nat} {v v' : Value} (h : fn.results = #[.tmp t, .tmp u]) (hv : f t = v) (hv' : f u = v') : Res P fn n f w (.tuple #[v, v']) := by
  intro a _ ha
  rw [results_tmp2 h, ← hv, ← hv', ← ha]; rfl
theorem Res.zero {fn : Func} {n : Nat} {f : Fr} {w : World} (h : fn.results = #[]) : Res P fn n f w (.tuple #[]) := by
  intro a _ _
  rw [results_none h]
/-- A struct handed back out of a block. -/
theorem Res.cell {fn : Func} {n : Nat} {f : Fr} {w : World} {t ty b o : Nat} {v : Value} (h : fn.results = #[.cell t ty]) (hp : f t = .pointer (some ⟨b, o, none⟩)) (hv : (loadVar ty ⟨b, o, none⟩).run P w = .ok v w) : Res P fn n f w v := by
  intro a _ ha
  have e : a.tmps.getD t undef = .pointer (some ⟨b, o, none⟩) := by rw [← hp, ← ha]; rfl
  rw [Array.getD_eq_getD_getElem?] at e
  simp [results, h, asAddr, e, hv, Result.andThen]
theorem Res.cellTmp {fn : Func} {n : Nat} {f : Fr} {w : World} {t ty b o u : Nat} {v v' : Value} (h : fn.results = #[.cell t ty, .tmp u]) (hp : f t = .pointer (some ⟨b, o, none⟩)) (hv : (loadVar ty ⟨b, o, none⟩).run P w = .ok v w) (hu : f u = v') : Res P fn n f w (.tuple #[v, v']) := by
  intro a _ ha
  have e : a.tmps.getD t undef = .pointer (some ⟨b, o, none⟩) := by rw [← hp, ← ha]; rfl
  have e' : a.tmps.getD u undef = v' := by rw [← hu, ← ha]; rfl
  rw [Array.getD_eq_getD_getElem?] at e e'
  simp [results, h, asAddr, e, hv, e', Result.andThen]
theorem Res.three {fn : Func} {n : Nat} {f : Fr} {w : World} {t u r : Nat} {v v' v'' : Value} (h : fn.results = #[.tmp t, .tmp u, .tmp r]) (hv : f t = v) (hv' : f u = v') (hv'' : f r = v'') : Res P fn n f w (.tuple #[v, v', v'']) := by
  intro a _ ha
  rw [results_tmp3 h, ← hv, ← hv', ← hv'', ← ha]; rfl

end calls
end Go.Ux
