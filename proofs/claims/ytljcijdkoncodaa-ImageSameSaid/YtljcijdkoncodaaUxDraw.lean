/- The walking engine: a region whose order is drawn. What yields its value in every world that meets S is taken first; of the rest each that may come up. -/
import Derived.OrdersHeld
import Derived.Test.YtljcijdkoncodaaUxMem
namespace Go.Ux
open Go

theorem val_next {P : Program} {s : Sem Value} {nx : Next} {w w' : World} (h : (do pure (Next.value (← s)) : Sem Next).run P w = .ok nx w') : ∃ u, nx = .value u := by
  rw [Sem.run_bind] at h
  cases hs : s.run P w with
  | ok v w1 => rw [hs] at h; simp [Result.andThen] at h; exact ⟨_, h.1.symm⟩
  | halt x w1 => rw [hs] at h; simp [Result.andThen] at h

/-- The operation yields a value, or ends the way: it enters nothing. -/
def calm (o : Oper) : Bool := match o.op with
  | .move _ | .assign _ | .pick .. | .load .. | .binOp .. | .unOp .. | .convert .. | .slice .. | .fieldAddr .. | .field .. | .indexAddr .. | .index .. | .extract .. | .build .. => true
  | .call { callee := .builtin .len, .. } => true
  | _ => false

theorem calm_next {P : Program} {ρ : Operand → Value} {o : Oper} {nx : Next} {w w' : World} (hc : calm o = true) (h : (execOp ρ o).run P w = .ok nx w') : ∃ u, nx = .value u := by
  unfold execOp at h
  unfold calm at hc
  split at hc
  case h_16 => cases hc
  case h_15 =>
    rename_i he
    rw [he] at h
    simp only [resolve, invoke, builtin, Sem.run_bind, Sem.run_pure, Result.andThen] at h
    generalize Sem.run P (Builtin.len_ _ _ _) w = r at h
    cases r with
    | ok v w1 => simp at h; exact ⟨_, h.1.symm⟩
    | halt x w1 => simp at h
  all_goals
    rename_i he
    rw [he] at h
    simp only at h
  case h_1 => simp at h; exact ⟨_, h.1.symm⟩
  case h_2 => simp at h; exact ⟨_, h.1.symm⟩
  case h_3 c a b =>
    rw [Sem.run_bind] at h
    cases hs : (asBool (ρ c)).run P w with
    | ok v w1 => rw [hs] at h; simp [Result.andThen] at h; exact ⟨_, h.1.symm⟩
    | halt x w1 => rw [hs] at h; simp [Result.andThen] at h
  all_goals exact val_next h

section
variable {P : Program} {ops : Array Oper} {n : Nat} {f : Fr} {w : World} {Q : Exit → Fr → World → Prop} {S : World → Prop}

/-- What an operation leaves that yields v and does nothing else. -/
def Left1 (f : Fr) (d : Nat) (v : Value) (w : World) : Exit → Fr → World → Prop := fun e f' w' => e = .normal ∧ f' = upd f d v ∧ w' = w

theorem yields_of {o : Oper} {d : Nat} {v : Value} {a : Act} (hc : calm o = true) (hd : o.dst = some d) (hdn : decide (d < n) = true) (h1 : a.tmps.size = n) (h2 : a.defers = [])
    (h : ∀ w, S w → WL P ops [o] n (frOf a) w (Left1 (frOf a) d v w)) : (∃ w, S w) → YieldsIf P ops S o v a := by
  rintro ⟨w0, hw0⟩
  have hdn' : d < a.tmps.size := by rw [h1]; simpa using hdn
  have same : ∀ u, upd (frOf a) d u = upd (frOf a) d v → u = v := fun u e => by have := congrFun e d; rwa [upd_same, upd_same] at this
  cases hw : Region.wanted o (yielded ops a.tmps) with
  | false =>
    refine .inr ⟨hw, ?_⟩
    have := h w0 hw0 a h1 h2 rfl
    unfold wpList at this
    rw [if_neg (by rw [hw]; simp)] at this
    obtain ⟨_, _, _, e, _⟩ := this
    rw [hd, frOf_put a d _ hdn'] at e
    exact (same _ e).symm
  | true =>
    refine .inl ⟨hw, fun w hS => ?_⟩
    have := h w hS a h1 h2 rfl
    unfold wpList at this
    rw [if_pos hw] at this
    rcases this with this | ⟨_, _, _, hl⟩
    case inr => obtain ⟨_, _, e, _⟩ := hl; cases e
    unfold Oper.wp at this
    cases hr : (execOp a.eval o).run P w with
    | ok nx w' =>
      obtain ⟨u, rfl⟩ := calm_next hc hr
      rw [hr] at this
      obtain ⟨_, _, _, e, rfl⟩ := this
      rw [hd, frOf_put a d _ hdn'] at e
      rw [same _ e]
    | halt x w' =>
      rw [hr] at this
      cases x <;> first | exact this.elim | skip
      obtain ⟨_, _, e, _⟩ := this; cases e

/-- Which operations have come up: the bits of a number. -/
def bits (N m : Nat) : Array Bool := ((List.range N).map fun i => m.testBit i).toArray
theorem bits_set (N m i : Nat) (_ : i < N) : (bits N m).setIfInBounds i true = bits N (m ||| 1 <<< i) := by
  apply Array.ext
  · simp [bits]
  · intro j h1 h2
    have hj : j < N := by simpa [bits] using h2
    rw [Array.getElem_setIfInBounds]
    · simp only [bits, List.getElem_toArray, List.getElem_map, List.getElem_range, Nat.testBit_or, Nat.one_shiftLeft, Nat.testBit_two_pow]
      by_cases e : i = j
      · subst e; simp
      · simp [e]
    · simpa [bits] using hj
theorem bits_zero (N : Nat) : bits N 0 = Array.replicate N false := by
  apply Array.ext <;> simp [bits]

/-- Whatever order is picked from here on. -/
def WA (P : Program) (ops : Array Oper) (S : World → Prop) (n fuel m : Nat) (f : Fr) (w : World) (Q : Exit → Fr → World → Prop) : Prop :=
  ∀ a : Act, a.tmps.size = n → a.defers = [] → frOf a = f → wpAnyH P .any ops (Post n Q) S fuel (bits ops.size m) a w

theorem WC.draw {id : Nat} {l : List Oper} (S : World → Prop) (N : Nat) (hN : l.toArray.size = N) (hm : P.follows .mixedOrders = true) (h : ∀ w1, Ext w w1 → WA P l.toArray S n N 0 f w1 Q) : WC P (.region id l.toArray true) n f w Q := by
  intro a h1 h2 h3
  refine wp_region_held (S := S) hm ?_
  rw [← bits_zero]
  have := h { w with drawn := w.drawn + 1 } (Mod.drew _ _) a h1 h2 h3
  rw [← hN] at this
  exact this

theorem WA.take {i m m' d fuel : Nat} {o : Oper} {v : Value} (hi : ops[i]? = some o) (hc : calm o = true) (hd : o.dst = some d) (hdn : decide (d < n) = true)
    (hs : (Region.noSelect ops && Region.free .any ops (bits ops.size m) i && (Region.ready .any ops (bits ops.size m)).contains i) = true) (hm : m ||| 1 <<< i = m')
    (hQ : ∀ c f w, Q (.panic c) f w → False) (hy : ∀ w, S w → WL P ops [o] n f w (Left1 f d v w)) (hS : S w)
    (k : WA P ops S n fuel m' (upd f d v) w Q) : WA P ops S n (fuel + 1) m f w Q := by
  intro a h1 h2 h3
  simp only [Bool.and_eq_true] at hs
  have hin : i < ops.size := (Array.getElem?_eq_some_iff.1 hi).1
  refine wpAnyH_take hi hs.1.1 hs.1.2 hs.2 (fun c a w h => (hQ c _ _ h.2.2).elim) (v := v) (yields_of hc hd hdn h1 h2 (by rw [h3]; exact hy) ⟨w, hS⟩) hS ?_
  rw [bits_set _ _ _ hin, hm, hd]
  exact k _ (by rw [size_put, h1]) (by rw [defers_put, h2]) (by rw [frOf_put a d v (by rw [h1]; simpa using hdn), h3])

/-- An operation whose guard is not met. -/
theorem WA.off {i m m' d fuel j : Nat} {b : Bool} {y : Option Bool} {o : Oper} (hi : ops[i]? = some o) (hg : o.guard = some (j, b)) (hd : o.dst = some d) (hdn : decide (d < n) = true)
    (hs : (Region.noSelect ops && Region.free .any ops (bits ops.size m) i && (Region.ready .any ops (bits ops.size m)).contains i) = true) (hm : m ||| 1 <<< i = m')
    (hQ : ∀ c f w, Q (.panic c) f w → False) (hy : yf ops f j = y) (hb : (y == some b) = false) (hS : S w)
    (k : WA P ops S n fuel m' (upd f d undef) w Q) : WA P ops S n (fuel + 1) m f w Q := by
  intro a h1 h2 h3
  simp only [Bool.and_eq_true] at hs
  have hin : i < ops.size := (Array.getElem?_eq_some_iff.1 hi).1
  have hw : Region.wanted o (yielded ops a.tmps) = false := by
    simp only [Region.wanted, hg]
    cases y with
    | none => rw [yielded_none a j (by rw [h3]; exact hy)]; rfl
    | some b' => rw [yielded_eq a j b' (by rw [h3]; exact hy)]; simpa using hb
  refine wpAnyH_take hi hs.1.1 hs.1.2 hs.2 (fun c a w h => (hQ c _ _ h.2.2).elim) (v := undef) (.inr ⟨hw, rfl⟩) hS ?_
  rw [bits_set _ _ _ hin, hm, hd]
  exact k _ (by rw [size_put, h1]) (by rw [defers_put, h2]) (by rw [frOf_put a d _ (by rw [h1]; simpa using hdn), h3])

/-- What is left behind an operation that is carried out where it comes up. -/
def Behind (P : Program) (ops : Array Oper) (S : World → Prop) (n fuel m : Nat) (Q : Exit → Fr → World → Prop) : Exit → Fr → World → Prop :=
  fun e f w => match e with
    | .normal => S w ∧ WA P ops S n fuel m f w Q
    | _ => False

theorem wpOp_of_WL {i m m' fuel : Nat} {o : Oper} (hi : ops[i]? = some o) (hm : m ||| 1 <<< i = m') (h : WL P ops [o] n f w (Behind P ops S n fuel m' Q)) {a : Act} (h1 : a.tmps.size = n) (h2 : a.defers = []) (h3 : frOf a = f) :
    wpOp P ops (Post n Q) i (fun a' w' => S w' ∧ wpAnyH P .any ops (Post n Q) S fuel ((bits ops.size m).setIfInBounds i true) a' w') a w := by
  have hin : i < ops.size := (Array.getElem?_eq_some_iff.1 hi).1
  have := h a h1 h2 h3
  unfold wpOp
  simp only [hi]
  unfold wpList at this
  have fin : ∀ a' w', wpList P ops (Post n (Behind P ops S n fuel m' Q)) [] a' w' → S w' ∧ wpAnyH P .any ops (Post n Q) S fuel ((bits ops.size m).setIfInBounds i true) a' w' := by
    rintro a' w' ⟨k1, k2, k3, k4⟩
    rw [bits_set _ _ _ hin, hm]
    exact ⟨k3, k4 a' k1 k2 rfl⟩
  split
  · rename_i hw
    rw [if_pos hw] at this
    rcases this with this | ⟨_, _, _, hl⟩
    · refine .inl ?_
      have h4 := Oper.wp_mono fin this
      unfold Oper.wp at h4 ⊢
      generalize (execOp a.eval o).run P w = r at h4 ⊢
      cases r with
      | ok nx w' =>
        cases nx <;> first | exact h4 | skip
        refine Calls.mono h4 fun e w'' he => ?_
        cases e with
        | returned u => exact he
        | panicked c => exact he.2.2.elim
        | outgrown => obtain ⟨_, _, _, _, e⟩ := he; exact e.elim
      | halt x w' =>
        cases x <;> first | exact h4 | skip
        exact h4.2.2.elim
    · exact hl.2.2.elim
  · rename_i hw
    rw [if_neg hw] at this
    exact fin _ _ this

theorem WA.one {i m m' fuel : Nat} {o : Oper} (hr : Region.ready .any ops (bits ops.size m) = [i]) (hi : ops[i]? = some o) (hm : m ||| 1 <<< i = m')
    (h : WL P ops [o] n f w (Behind P ops S n fuel m' Q)) : WA P ops S n (fuel + 1) m f w Q := by
  intro a h1 h2 h3
  refine wpAnyH_all hr (by simp) fun j hj => ?_
  obtain rfl : j = i := by simpa using hj
  exact wpOp_of_WL hi hm h h1 h2 h3
theorem WA.two {i j m mi mj fuel : Nat} {o o' : Oper} (hr : Region.ready .any ops (bits ops.size m) = [i, j]) (hi : ops[i]? = some o) (hj : ops[j]? = some o') (hmi : m ||| 1 <<< i = mi) (hmj : m ||| 1 <<< j = mj)
    (h : WL P ops [o] n f w (Behind P ops S n fuel mi Q)) (h' : WL P ops [o'] n f w (Behind P ops S n fuel mj Q)) : WA P ops S n (fuel + 1) m f w Q := by
  intro a h1 h2 h3
  refine wpAnyH_all hr (by simp) fun k hk => ?_
  rcases (by simpa using hk : k = i ∨ k = j) with rfl | rfl
  · exact wpOp_of_WL hi hmi h h1 h2 h3
  · exact wpOp_of_WL hj hmj h' h1 h2 h3
theorem WA.done {m fuel : Nat} (hr : Region.ready .any ops (bits ops.size m) = []) (h : Q .normal f w) : WA P ops S n fuel m f w Q :=
  fun _ h1 h2 h3 => wpAnyH_done hr ⟨h1, h2, by rw [h3]; exact h⟩ _
theorem WL.behind {fuel m : Nat} (hS : S w) (h : WA P ops S n fuel m f w Q) : WL P ops [] n f w (Behind P ops S n fuel m Q) := WL.nil ⟨hS, h⟩
end
end Go.Ux
