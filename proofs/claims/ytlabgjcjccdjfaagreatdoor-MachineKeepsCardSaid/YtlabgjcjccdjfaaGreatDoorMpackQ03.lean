/- Steps of the proof, packed by program: McS3 UxLast McS4 McW2 McW3. -/
import Derived.Test.YtlabgjcjccdjfaaGreatDoorRows
import Derived.Test.YtlabgjcjccdjfaaGreatDoorMpackQ01
import Derived.Test.YtlabgjcjccdjfaaGreatDoorMpackQ02
set_option linter.unusedVariables false
set_option linter.unusedSimpArgs false
set_option linter.unnecessarySimpa false
section
set_option linter.unusedSimpArgs false
set_option linter.unusedVariables false
namespace Go.Proofs.S
open Go Go.Ux Go.Ux.Mach Go.Proofs
theorem fo85_0 : fieldOff Tryz.prog 85 0 = some 0 := by kernel_rfl
theorem ag80 : isAggT Tryz.prog 80 = some false := by kernel_rfl
theorem ca72 : callable Tryz.prog 72 = true := by kernel_rfl
theorem bld69_20  : ∀ w : World, (Instr.build 148 #[(0, .bool (true))]).run Tryz.prog w = .ok (.agg #[.bool (true)]) w := fun _ => by kernel_rfl
theorem nif144 : notIf Tryz.prog 144 = true := by kernel_rfl
theorem AtR.no {sd ss : Value} {n : Nat} {addr : BitVec 64} {size : Nat} {v : Value} (h : AtR sd ss n addr size v) (e : whereM n addr size = none) : v = .slice none 0 0 := by
  rcases h with ⟨_, rfl⟩ | ⟨i, g, c, c', hi, hw, _⟩
  · rfl
  · rw [e] at hw; cases hw
theorem AtR.ok {sd ss : Value} {n : Nat} {addr : BitVec 64} {size : Nat} {v : Value} {k : Bool} {off : Nat} (h : AtR sd ss n addr size v) (e : whereM n addr size = some (k, off)) :
    ∃ g c c', (bif k then sd else ss) = .slice (some ⟨g, 0, none⟩) (bif k then n else 65536) c ∧ v = .slice (some ⟨g, off, none⟩) size c' ∧ off + size ≤ (bif k then n else 65536) := by
  rcases h with ⟨e', _⟩ | ⟨i, g, c, c', hi, hw, hg, rfl, hle⟩
  · rw [e] at e'; cases e'
  · rw [e] at hw
    obtain ⟨rfl, rfl⟩ := Prod.mk.inj (Option.some.inj hw)
    rcases (by omega : i = 0 ∨ i = 1) with rfl | rfl
    · exact ⟨g, c, c', hg, rfl, hle⟩
    · exact ⟨g, c, c', hg, rfl, hle⟩
set_option maxRecDepth 100000 in
theorem store_no (T : Nat → Nat) (b : Nat) (M : MS) (addr u : BitVec 64) (size : Nat) (w : World) (h : MR T w b M) (h0 : 0 < size) (h8 : size ≤ 8) (hw : whereM M.n addr size = none) : CallsR Tryz.prog 69 #[ptr b 0, U64 (addr), IN (size), U64 (u)] w (fun v w' => (∃ e, v = .iface 144 (ptr e 0) ∧ Blk w' e #[.bool true] 148 ∧ w.heap.size ≤ e) ∧ Ext w w') := by
  obtain ⟨bq, sd, ss, cv, iv, ev, en, hb, ht⟩ := h
  refine callsR_of Tryz.func69 rfl rfl rfl ?_
  refine WC.seq (WC.region (WL.assign (v := .nilIface) rfl rfl (WL.nil (WC.seq (WC.region (WL.move (v := ptr b 0) rfl rfl (WL.nilCheck rfl rfl (WL.fieldAddr rfl fo85_0 rfl (WL.load1 rfl ag80 (hb.cell (j := 0) rfl) rfl ?_)))))))))
  refine WL.move (v := U64 (addr)) rfl rfl (WL.move (v := IN (size)) rfl rfl (WL.call ca72 (rfl) rfl (at_spec bq sd ss M.n (bsV M.d M.n) (bsV M.s 65536) addr size _ ht.mem ht.data ht.stk ht.n_le h0 h8) ?_))
  rintro vat wat ⟨hat, eat⟩
  obtain rfl := hat.no hw
  have E1 : Ext w wat := Mod.trans (Mod.refl _ _) (eat)
  refine WL.assign (v := .slice none 0 0) rfl rfl (WL.nil (WC.seq (WC.seq (WC.region (WL.move (v := .slice none 0 0) rfl rfl (WL.bin rfl rfl rfl (BinR.eqlSlnil Tryz.underlying45) (WL.nil (WC.condT rfl (WC.seq ?_)))))))))
  refine WC.region (WL.build (v := .agg #[.bool (true)]) (vs := [(0, .bool (true))]) rfl (bld69_20) rfl (WL.box (v := .agg #[.bool (true)]) rfl rfl ?_))
  intro b21 w21 n21
  have E2 : Ext w w21 := Mod.trans (E1) (n21.ext)
  refine WL.mkiface (v := ptr b21 0) rfl nif144 rfl (WL.assign (v := .iface 144 (ptr b21 0)) rfl rfl (WL.nil (WC.ret ?_)))
  exact ⟨_, Res.one (v := .iface 144 (ptr b21 0)) rfl rfl, ⟨b21, rfl, n21.blk, by have := Mod.size (E1); have := n21.num; omega⟩, E2⟩
set_option maxRecDepth 100000 in
theorem store_ok (T : Nat → Nat) (b : Nat) (M : MS) (addr u : BitVec 64) (size : Nat) (w : World) (h : MR T w b M) (h0 : 0 < size) (h8 : size ≤ 8) (q : Bool) (off : Nat) (hw : whereM M.n addr size = some (q, off)) : CallsR Tryz.prog 69 #[ptr b 0, U64 (addr), IN (size), U64 (u)] w (fun v w' => v = .nilIface ∧ Turn T w b (storeM M q off size u) w') := by
  obtain ⟨bq, sd, ss, cv, iv, ev, en, hb, ht⟩ := h
  refine callsR_of Tryz.func69 rfl rfl rfl ?_
  refine WC.seq (WC.region (WL.assign (v := .nilIface) rfl rfl (WL.nil (WC.seq (WC.region (WL.move (v := ptr b 0) rfl rfl (WL.nilCheck rfl rfl (WL.fieldAddr rfl fo85_0 rfl (WL.load1 rfl ag80 (hb.cell (j := 0) rfl) rfl ?_)))))))))
  refine WL.move (v := U64 (addr)) rfl rfl (WL.move (v := IN (size)) rfl rfl (WL.call ca72 (rfl) rfl (at_spec bq sd ss M.n (bsV M.d M.n) (bsV M.s 65536) addr size _ ht.mem ht.data ht.stk ht.n_le h0 h8) ?_))
  rintro vat wat ⟨hat, eat⟩
  obtain ⟨g, c, c', hav, rfl, hle⟩ := hat.ok hw
  have hO0 : Own wat 1 (bif q then sd else ss) (bif q then M.n else 65536) (bsV (storeB (bif q then M.d else M.s) off u 0) (bif q then M.n else 65536)) := by cases q; exact ht.stk.ext eat; exact ht.data.ext eat
  have E1 : Mod (At (bif q then sd else ss)) w wat := Mod.trans (Mod.refl _ _) (Mod.ext (eat))
  refine WL.assign (v := .slice (some ⟨g, off, none⟩) size c') rfl rfl (WL.nil (WC.seq (WC.seq (WC.region (WL.move (v := .slice (some ⟨g, off, none⟩) size c') rfl rfl (WL.bin rfl rfl rfl (BinR.eqlSl Tryz.underlying45) (WL.nil (WC.condF rfl (WC.skip ?_)))))))))
  refine WC.seq (WC.seq (WC.region (WL.move (v := .slice (some ⟨g, off, none⟩) size c') rfl rfl (WL.lenS (m := size) el45 rfl rfl (WL.move (v := IN (0)) rfl rfl (WL.nil (WC.block ?_)))))))
  refine WC.loop (fun k f w_ => ∃ i, (k + i = size) ∧ f 0 = ptr b 0 ∧ f 1 = U64 (addr) ∧ f 2 = IN (size) ∧ f 3 = U64 (u) ∧ f 8 = .nilIface ∧ f 9 = .slice (some ⟨g, off, none⟩) size c' ∧ f 11 = ptr b 0 ∧ f 12 = ptr b 0 ∧ f 13 = ptr b 0 ∧ f 14 = .slice (some ⟨bq, 0, none⟩) 2 2 ∧ f 15 = U64 (addr) ∧ f 16 = IN (size) ∧ f 17 = .slice (some ⟨g, off, none⟩) size c' ∧ f 18 = .slice (some ⟨g, off, none⟩) size c' ∧ f 19 = .bool (false) ∧ f 23 = .slice (some ⟨g, off, none⟩) size c' ∧ f 24 = IN (size) ∧ f 25 = IN (i) ∧ (Mod (At (bif q then sd else ss)) w w_) ∧ (Own w_ 1 (bif q then sd else ss) (bif q then M.n else 65536) (bsV (storeB (bif q then M.d else M.s) off u i) (bif q then M.n else 65536)))) (size) ?_ ?_
  · exact ⟨(0), by omega, rfl, rfl, rfl, rfl, rfl, rfl, rfl, rfl, rfl, rfl, rfl, rfl, rfl, rfl, rfl, rfl, rfl, rfl, E1, hO0⟩
  rintro ka f1 wr ⟨i, hk, h0_1, h1_1, h2_1, h3_1, h8_1, h9_1, h11_1, h12_1, h13_1, h14_1, h15_1, h16_1, h17_1, h18_1, h19_1, h23_1, h24_1, h25_1, hE, hO⟩
  refine WC.seq (WC.region (WL.bin h25_1 h24_1 rfl (BinR.lss) (WL.nil (WC.seq ?_))))
  refine WC.cond rfl (fun hc26 => ?_) (fun hc26 => ?_)
  · have hi : i < size := by have := of_decide_eq_true hc26; omega
    refine WC.skip (WC.seq (WC.block (WC.seq (WC.region (WL.move (v := IN (i)) h25_1 rfl (WL.assign (v := IN (i)) rfl rfl (WL.nil (WC.region (WL.move (v := .slice (some ⟨g, off, none⟩) size c') h9_1 rfl ?_)))))))))
    refine WL.move (v := IN (i)) rfl rfl (WL.move (v := U64 (u)) h3_1 rfl (WL.move (v := IN (i)) rfl rfl (WL.bin rfl rfl rfl (BinR.mulN (a := 8) (b := i) (by omega)) (WL.bin rfl rfl rfl (BinR.shrU64) (WL.conv rfl rfl (ConvR.u64u8 Tryz.underlying39 Tryz.underlying5) (WL.indexAddr (i := i) (b := g) (o := off) el45 sz5 (Eq.trans (rfl) rfl) rfl (by omega) rfl (WL.storeOwn (i := off + i * 1) (u := U8 (((u >>> (8 * i))).setWidth 8)) rfl rfl rfl sz5 hO hav (by omega) ?_)))))))
    intro ws os ms
    have os2 : Own ws 1 (bif q then sd else ss) (bif q then M.n else 65536) (bsV (storeB (bif q then M.d else M.s) off u (i + 1)) (bif q then M.n else 65536)) := by rw [bsV_set, Nat.mul_one] at os; exact os
    have E2 : Mod (At (bif q then sd else ss)) w ws := Mod.trans (hE) (ms)
    refine WL.nil (WC.region (WL.bin h25_1 rfl rfl (BinR.succN (by omega)) (WL.move (v := IN (i + 1)) rfl rfl (WL.nil ?_))))
    exact ⟨ka - 1, by omega, (i + 1), by omega, h0_1, h1_1, h2_1, h3_1, h8_1, h9_1, h11_1, h12_1, h13_1, h14_1, h15_1, h16_1, h17_1, h18_1, h19_1, h23_1, h24_1, rfl, E2, os2⟩
  · have hi : i = size := by have := of_decide_eq_false hc26; omega
    refine WC.exit (WC.seq (WC.region (WL.assign (v := .nilIface) rfl rfl (WL.nil (WC.ret ?_)))))
    have htn : Turn T w b (storeM M q off size u) wr := turn_area ht hb q (hE) (by rw [← hi]; exact hO)
    exact ⟨_, Res.one (v := .nilIface) rfl rfl, rfl, htn⟩
end Go.Proofs.S
end
section
namespace Go.Ux
open Go
def wpAnyL (P : Program) (ops : Array Oper) (Q : Exit → Act → World → Prop) (S : World → Prop) (L : Nat) : Nat → Array Bool → Act → World → Prop
  | 0, listed, a, w => Region.ready .any ops listed = [] ∧ Q .normal a w
  | fuel + 1, listed, a, w =>
    (Region.ready .any ops listed = [] → Q .normal a w) ∧
    ∀ i ∈ Region.ready .any ops listed, wpOp P ops Q i (fun a' w' => ((listed.setIfInBounds i true).getD L false = true ∨ S w') ∧ wpAnyL P ops Q S L fuel (listed.setIfInBounds i true) a' w') a w
section
variable {P : Program} {ops : Array Oper} {Q : Exit → Act → World → Prop} {S : World → Prop} {L : Nat}
theorem wpAny_of_L : ∀ (fuel : Nat) (listed : Array Bool) (a : Act) (w : World), wpAnyL P ops Q S L fuel listed a w → wpAny P .any ops Q fuel listed a w
  | 0, _, _, _, h => h
  | fuel + 1, _, _, _, h => ⟨h.1, fun i hi => wpOp_mono (fun a' w' h' => wpAny_of_L fuel _ a' w' h'.2) (h.2 i hi)⟩
def waitsFor (ops : Array Oper) (L i : Nat) : Bool := match ops[L]? with
  | some o => o.after.any fun e => Region.binds .any e && e.on == i
  | none => false
theorem wpAnyL_first {i : Nat} {oi : Oper} {v : Value} (hi : ops[i]? = some oi) (hsel : ∀ (j : Nat) (o : Oper) cs b, ops[j]? = some o → o.op ≠ .select cs b)
    (hQ : ∀ c a w, Q (.panic c) (a.put oi.dst v) w → Q (.panic c) a w) (hL : waitsFor ops L i = true) (hLi : L ≠ i) :
    ∀ (fuel : Nat) (listed : Array Bool) (a : Act) (w : World),
      (∀ j oj, ops[j]? = some oj → j ≠ i → listed.getD j true = false → (∀ e ∈ oj.after, Region.binds .any e = true → e.on ≠ i) → oi.apart ops oj = true) →
      listed.getD L false = false → i ∈ Region.ready .any ops listed → YieldsIf P ops S oi v a → S w →
      wpAnyL P ops Q S L fuel (listed.setIfInBounds i true) (a.put oi.dst v) w → wpAnyL P ops Q S L (fuel + 1) listed a w := by
  intro fuel
  induction fuel with
  | zero =>
    intro listed a w _ _ hr hy hS H
    refine ⟨fun h => (by rw [h] at hr; cases hr), fun j hj => ?_⟩
    by_cases hji : j = i
    · subst hji; exact hy.wpOp hi hS ⟨.inr hS, H⟩
    · have := ready_mono hj hji
      rw [H.1] at this
      cases this
  | succ fuel ih =>
    intro listed a w hfree hLl hr hy hS H
    refine ⟨fun h => (by rw [h] at hr; cases hr), fun j hj => ?_⟩
    by_cases hji : j = i
    · subst hji; exact hy.wpOp hi hS ⟨.inr hS, H⟩
    · have h1 := H.2 j (ready_mono hj hji)
      obtain ⟨hjun, oj, hoj, hall⟩ := mem_ready.1 hj
      have hnot : ∀ e ∈ oj.after, Region.binds .any e = true → e.on ≠ i := fun e he hb heq => by
        have h1 := hall e he hb
        have h0 := (mem_ready.1 hr).1
        rw [heq] at h1
        rcases Nat.lt_or_ge i listed.size with h' | h'
        · simp [h'] at h0 h1; rw [h0] at h1; cases h1
        · simp [Array.getElem?_eq_none h'] at h1
      have hjL : j ≠ L := fun e => by
        subst e
        unfold waitsFor at hL
        rw [hoj] at hL
        simp only [Array.any_eq_true', Bool.and_eq_true, beq_iff_eq] at hL
        obtain ⟨e, he, hb, heq⟩ := hL
        exact hnot e he hb heq
      have h2 := wpOp_putIf hoj (hfree j oj hoj hji hjun hnot) (fun cs b => hsel i oi cs b hi) (fun cs b => hsel j oj cs b hoj) hQ hy h1
      have hfree' : ∀ k ok, ops[k]? = some ok → k ≠ i → (listed.setIfInBounds j true).getD k true = false →
          (∀ e ∈ ok.after, Region.binds .any e = true → e.on ≠ i) → oi.apart ops ok = true := fun k ok hk hki hun hno => by
        refine hfree k ok hk hki ?_ hno
        by_cases hjk : j = k
        · subst hjk; exact hjun
        · rw [getD_set_ne true hjk] at hun; exact hun
      have hl1 : (listed.setIfInBounds j true).getD L false = false := by rw [getD_set_ne false hjL]; exact hLl
      have hl2 : ((listed.setIfInBounds i true).setIfInBounds j true).getD L false = false := by rw [getD_set_ne false hjL, getD_set_ne false (Ne.symm hLi)]; exact hLl
      refine wpOp_mono (fun a' w' h3 => ?_) h2
      have hS' : S w' := by
        rcases h3.2.1 with h | h
        · rw [hl2] at h; cases h
        · exact h
      refine ⟨.inr hS', ih (listed.setIfInBounds j true) a' w' hfree' hl1 (ready_mono hr (Ne.symm hji)) h3.1 hS' ?_⟩
      rw [Array.setIfInBounds_comm _ _ hji]
      exact h3.2.2
end
def calmL (o : Oper) : Bool := calm o || match o.op with
  | .nilCheck _ => true
  | _ => false
theorem calmL_next {P : Program} {ρ : Operand → Value} {o : Oper} {nx : Next} {w w' : World} (hc : calmL o = true) (h : (execOp ρ o).run P w = .ok nx w') : ∃ u, nx = .value u := by
  unfold calmL at hc
  rw [Bool.or_eq_true] at hc
  rcases hc with hc | hc
  · exact calm_next hc h
  · cases ho : o.op with
    | nilCheck x =>
      have e : execOp ρ o = execOp ρ { o with op := .nilCheck x } := by rw [← ho]
      rw [e] at h
      simp only [execOp] at h
      split at h
      · simp [runtimePanic, Sem.run] at h
      · simp [runtimePanic, Sem.run] at h
      · simp [runtimePanic, Sem.run] at h
      · split at h
        · simp [runtimePanic, Sem.run] at h
        · rename_i t v _ _ _
          rw [Sem.run_bind] at h
          simp only [program, Sem.run_bind, Result.andThen] at h
          revert h
          generalize (Sem.run P _ _) = r
          cases r with
          | halt x w1 => intro h; simp at h
          | ok a w1 =>
            intro h
            simp only at h
            revert h
            generalize (Sem.run P _ _) = r2
            cases r2 with
            | halt x w1 => intro h; simp at h
            | ok a w1 =>
              intro h
              simp only at h
              split at h
              · simp [unsupported, Sem.run] at h
              · simp at h; exact ⟨_, h.1.symm⟩
        · simp at h; exact ⟨_, h.1.symm⟩
      · simp at h; exact ⟨_, h.1.symm⟩
    | _ => rw [ho] at hc; cases hc
section
variable {P : Program} {ops : Array Oper} {n : Nat} {f : Fr} {w : World} {Q : Exit → Fr → World → Prop} {S : World → Prop} {L : Nat}
theorem yields_ofL {o : Oper} {d : Nat} {v : Value} {a : Act} (hc : calmL o = true) (hd : o.dst = some d) (hdn : decide (d < n) = true) (h1 : a.tmps.size = n) (h2 : a.defers = [])
    (h : ∀ w, S w → WL P ops [o] n (frOf a) w (Left1 (frOf a) d v w)) : (∃ w, S w) → YieldsIf P ops S o v a := by
  rintro ⟨w0, hw0⟩
  have hdn' : d < a.tmps.size := by rw [h1]; simpa using hdn
  have same : ∀ u, upd (frOf a) d u = upd (frOf a) d v → u = v := fun u e => by have := congrFun e d; rwa [upd_same, upd_same] at this
  cases hw : Region.wanted o (yielded ops a.tmps) with
  | false =>
    refine .inr ⟨hw, ?_⟩
    have := h w0 hw0 a h1 h2 rfl
    unfold wpList at this
    rw [if_neg (by rw [hw]; simp)] at this
    obtain ⟨_, _, _, e, _⟩ := this
    rw [hd, frOf_put a d _ hdn'] at e
    exact (same _ e).symm
  | true =>
    refine .inl ⟨hw, fun w hS => ?_⟩
    have := h w hS a h1 h2 rfl
    unfold wpList at this
    rw [if_pos hw] at this
    rcases this with this | ⟨_, _, _, hl⟩
    case inr => obtain ⟨_, _, e, _⟩ := hl; cases e
    unfold Oper.wp at this
    cases hr : (execOp a.eval o).run P w with
    | ok nx w' =>
      obtain ⟨u, rfl⟩ := calmL_next hc hr
      rw [hr] at this
      obtain ⟨_, _, _, e, rfl⟩ := this
      rw [hd, frOf_put a d _ hdn'] at e
      rw [same _ e]
    | halt x w' =>
      rw [hr] at this
      cases x <;> first | exact this.elim | skip
      obtain ⟨_, _, e, _⟩ := this; cases e
def WAL (P : Program) (ops : Array Oper) (S : World → Prop) (L n fuel m : Nat) (f : Fr) (w : World) (Q : Exit → Fr → World → Prop) : Prop :=
  ∀ a : Act, a.tmps.size = n → a.defers = [] → frOf a = f → wpAnyL P ops (Post n Q) S L fuel (bits ops.size m) a w
theorem WC.drawL {id : Nat} {l : List Oper} (S : World → Prop) (L N : Nat) (hN : l.toArray.size = N) (hm : P.follows .mixedOrders = true) (h : ∀ w1, Ext w w1 → WAL P l.toArray S L n N 0 f w1 Q) : WC P (.region id l.toArray true) n f w Q := by
  intro a h1 h2 h3
  refine wp_region_any hm (wpAny_of_L (S := S) (L := L) _ _ _ _ ?_)
  rw [← bits_zero]
  have := h { w with drawn := w.drawn + 1 } (Mod.drew _ _) a h1 h2 h3
  rw [← hN] at this
  exact this
theorem WAL.take {i m m' d fuel : Nat} {o : Oper} {v : Value} (hi : ops[i]? = some o) (hc : calmL o = true) (hd : o.dst = some d) (hdn : decide (d < n) = true)
    (hs : (Region.noSelect ops && Region.free .any ops (bits ops.size m) i && (Region.ready .any ops (bits ops.size m)).contains i && (waitsFor ops L i && !(L == i) && !((bits ops.size m).getD L false))) = true) (hm : m ||| 1 <<< i = m')
    (hQ : ∀ c f w, Q (.panic c) f w → False) (hy : ∀ w, S w → WL P ops [o] n f w (Left1 f d v w)) (hS : S w)
    (k : WAL P ops S L n fuel m' (upd f d v) w Q) : WAL P ops S L n (fuel + 1) m f w Q := by
  intro a h1 h2 h3
  simp only [Bool.and_eq_true, Bool.not_eq_true', beq_eq_false_iff_ne] at hs
  have hin : i < ops.size := (Array.getElem?_eq_some_iff.1 hi).1
  refine wpAnyL_first hi (Region.noSelect_spec hs.1.1.1) (fun c a w h => (hQ c _ _ h.2.2).elim) hs.2.1.1 hs.2.1.2 fuel _ a w (Region.free_spec hi hs.1.1.2) hs.2.2 (by simpa using hs.1.2) (yields_ofL hc hd hdn h1 h2 (by rw [h3]; exact hy) ⟨w, hS⟩) hS ?_
  rw [bits_set _ _ _ hin, hm, hd]
  exact k _ (by rw [size_put, h1]) (by rw [defers_put, h2]) (by rw [frOf_put a d v (by rw [h1]; simpa using hdn), h3])
theorem WAL.off {i m m' d fuel j : Nat} {b : Bool} {y : Option Bool} {o : Oper} (hi : ops[i]? = some o) (hg : o.guard = some (j, b)) (hd : o.dst = some d) (hdn : decide (d < n) = true)
    (hs : (Region.noSelect ops && Region.free .any ops (bits ops.size m) i && (Region.ready .any ops (bits ops.size m)).contains i && (waitsFor ops L i && !(L == i) && !((bits ops.size m).getD L false))) = true) (hm : m ||| 1 <<< i = m')
    (hQ : ∀ c f w, Q (.panic c) f w → False) (hy : yf ops f j = y) (hb : (y == some b) = false) (hS : S w)
    (k : WAL P ops S L n fuel m' (upd f d undef) w Q) : WAL P ops S L n (fuel + 1) m f w Q := by
  intro a h1 h2 h3
  simp only [Bool.and_eq_true, Bool.not_eq_true', beq_eq_false_iff_ne] at hs
  have hin : i < ops.size := (Array.getElem?_eq_some_iff.1 hi).1
  have hw : Region.wanted o (yielded ops a.tmps) = false := by
    simp only [Region.wanted, hg]
    cases y with
    | none => rw [yielded_none a j (by rw [h3]; exact hy)]; rfl
    | some b' => rw [yielded_eq a j b' (by rw [h3]; exact hy)]; simpa using hb
  refine wpAnyL_first hi (Region.noSelect_spec hs.1.1.1) (fun c a w h => (hQ c _ _ h.2.2).elim) hs.2.1.1 hs.2.1.2 fuel _ a w (Region.free_spec hi hs.1.1.2) hs.2.2 (by simpa using hs.1.2) (v := undef) (.inr ⟨hw, rfl⟩) hS ?_
  rw [bits_set _ _ _ hin, hm, hd]
  exact k _ (by rw [size_put, h1]) (by rw [defers_put, h2]) (by rw [frOf_put a d _ (by rw [h1]; simpa using hdn), h3])
theorem WA.takeN {i m m' d fuel : Nat} {o : Oper} {v : Value} (hi : ops[i]? = some o) (hc : calmL o = true) (hd : o.dst = some d) (hdn : decide (d < n) = true)
    (hs : (Region.noSelect ops && Region.free .any ops (bits ops.size m) i && (Region.ready .any ops (bits ops.size m)).contains i) = true) (hm : m ||| 1 <<< i = m')
    (hQ : ∀ c f w, Q (.panic c) f w → False) (hy : ∀ w, S w → WL P ops [o] n f w (Left1 f d v w)) (hS : S w)
    (k : WA P ops S n fuel m' (upd f d v) w Q) : WA P ops S n (fuel + 1) m f w Q := by
  intro a h1 h2 h3
  simp only [Bool.and_eq_true] at hs
  have hin : i < ops.size := (Array.getElem?_eq_some_iff.1 hi).1
  refine wpAnyH_take hi hs.1.1 hs.1.2 hs.2 (fun c a w h => (hQ c _ _ h.2.2).elim) (v := v) (yields_ofL hc hd hdn h1 h2 (by rw [h3]; exact hy) ⟨w, hS⟩) hS ?_
  rw [bits_set _ _ _ hin, hm, hd]
  exact k _ (by rw [size_put, h1]) (by rw [defers_put, h2]) (by rw [frOf_put a d v (by rw [h1]; simpa using hdn), h3])
def BehindL (P : Program) (ops : Array Oper) (S : World → Prop) (L n fuel m : Nat) (Q : Exit → Fr → World → Prop) : Exit → Fr → World → Prop :=
  fun e f w => match e with
    | .normal => ((bits ops.size m).getD L false = true ∨ S w) ∧ WAL P ops S L n fuel m f w Q
    | _ => False
theorem wpOp_of_WLL {i m m' fuel : Nat} {o : Oper} (hi : ops[i]? = some o) (hm : m ||| 1 <<< i = m') (h : WL P ops [o] n f w (BehindL P ops S L n fuel m' Q)) {a : Act} (h1 : a.tmps.size = n) (h2 : a.defers = []) (h3 : frOf a = f) :
    wpOp P ops (Post n Q) i (fun a' w' => (((bits ops.size m).setIfInBounds i true).getD L false = true ∨ S w') ∧ wpAnyL P ops (Post n Q) S L fuel ((bits ops.size m).setIfInBounds i true) a' w') a w := by
  have hin : i < ops.size := (Array.getElem?_eq_some_iff.1 hi).1
  have := h a h1 h2 h3
  unfold wpOp
  simp only [hi]
  unfold wpList at this
  have fin : ∀ a' w', wpList P ops (Post n (BehindL P ops S L n fuel m' Q)) [] a' w' → (((bits ops.size m).setIfInBounds i true).getD L false = true ∨ S w') ∧ wpAnyL P ops (Post n Q) S L fuel ((bits ops.size m).setIfInBounds i true) a' w' := by
    rintro a' w' ⟨k1, k2, k3, k4⟩
    rw [bits_set _ _ _ hin, hm]
    exact ⟨k3, k4 a' k1 k2 rfl⟩
  split
  · rename_i hw
    rw [if_pos hw] at this
    rcases this with this | ⟨_, _, _, hl⟩
    · refine .inl ?_
      have h4 := Oper.wp_mono fin this
      unfold Oper.wp at h4 ⊢
      generalize (execOp a.eval o).run P w = r at h4 ⊢
      cases r with
      | ok nx w' =>
        cases nx <;> first | exact h4 | skip
        refine Calls.mono h4 fun e w'' he => ?_
        cases e with
        | returned u => exact he
        | panicked c => exact he.2.2.elim
        | outgrown => obtain ⟨_, _, _, _, e⟩ := he; exact e.elim
      | halt x w' =>
        cases x <;> first | exact h4 | skip
        exact h4.2.2.elim
    · exact hl.2.2.elim
  · rename_i hw
    rw [if_neg hw] at this
    exact fin _ _ this
theorem WAL.one {i m m' fuel : Nat} {o : Oper} (hr : Region.ready .any ops (bits ops.size m) = [i]) (hi : ops[i]? = some o) (hm : m ||| 1 <<< i = m')
    (h : WL P ops [o] n f w (BehindL P ops S L n fuel m' Q)) : WAL P ops S L n (fuel + 1) m f w Q := by
  intro a h1 h2 h3
  refine ⟨fun h0 => absurd (hr.symm.trans h0) (by simp), fun j hj => ?_⟩
  rw [hr] at hj
  obtain rfl : j = i := by simpa using hj
  exact wpOp_of_WLL hi hm h h1 h2 h3
theorem WAL.two {i j m mi mj fuel : Nat} {o o' : Oper} (hr : Region.ready .any ops (bits ops.size m) = [i, j]) (hi : ops[i]? = some o) (hj : ops[j]? = some o') (hmi : m ||| 1 <<< i = mi) (hmj : m ||| 1 <<< j = mj)
    (h : WL P ops [o] n f w (BehindL P ops S L n fuel mi Q)) (h' : WL P ops [o'] n f w (BehindL P ops S L n fuel mj Q)) : WAL P ops S L n (fuel + 1) m f w Q := by
  intro a h1 h2 h3
  refine ⟨fun h0 => absurd (hr.symm.trans h0) (by simp), fun k hk => ?_⟩
  rw [hr] at hk
  rcases (by simpa using hk : k = i ∨ k = j) with rfl | rfl
  · exact wpOp_of_WLL hi hmi h h1 h2 h3
  · exact wpOp_of_WLL hj hmj h' h1 h2 h3
theorem WAL.done {m fuel : Nat} (hr : Region.ready .any ops (bits ops.size m) = []) (h : Q .normal f w) : WAL P ops S L n fuel m f w Q := by
  intro a h1 h2 h3
  cases fuel with
  | zero => exact ⟨hr, h1, h2, by rw [h3]; exact h⟩
  | succ k => exact ⟨fun _ => ⟨h1, h2, by rw [h3]; exact h⟩, by rw [hr]; simp⟩
theorem WL.behindS {fuel m : Nat} (hS : S w) (h : WAL P ops S L n fuel m f w Q) : WL P ops [] n f w (BehindL P ops S L n fuel m Q) := WL.nil ⟨.inr hS, h⟩
theorem WL.behindL {fuel m : Nat} (hL : (bits ops.size m).getD L false = true) (h : WAL P ops S L n fuel m f w Q) : WL P ops [] n f w (BehindL P ops S L n fuel m Q) := WL.nil ⟨.inl hL, h⟩
end
end Go.Ux
end
section
set_option linter.unusedSimpArgs false
set_option linter.unusedVariables false
namespace Go.Proofs.S
open Go Go.Ux Go.Ux.Mach Go.Proofs
theorem fo85_3 : fieldOff Tryz.prog 85 3 = some 3 := by kernel_rfl
theorem ar68 : arrT Tryz.prog 68 = some (32, 39) := by kernel_rfl
theorem sz39 : sizeT Tryz.prog 39 = some 1 := by kernel_rfl
theorem ca96 : callable Tryz.prog 96 = true := by kernel_rfl
theorem bld70_57  : ∀ w : World, (Instr.build 148 #[]).run Tryz.prog w = .ok (.agg #[.bool (false)]) w := fun _ => by kernel_rfl
theorem bld70_65  : ∀ w : World, (Instr.build 148 #[]).run Tryz.prog w = .ok (.agg #[.bool (false)]) w := fun _ => by kernel_rfl
theorem bld70_68  : ∀ w : World, (Instr.build 148 #[(0, .bool (true))]).run Tryz.prog w = .ok (.agg #[.bool (true)]) w := fun _ => by kernel_rfl
theorem fo85_2 : fieldOff Tryz.prog 85 2 = some 2 := by kernel_rfl
theorem ag26 : isAggT Tryz.prog 26 = some false := by kernel_rfl
theorem el26 : elemT Tryz.prog 26 = some 2 := by kernel_rfl
theorem sz2 : sizeT Tryz.prog 2 = some 1 := by kernel_rfl
theorem ag2 : isAggT Tryz.prog 2 = some false := by kernel_rfl
theorem sz26 : sizeT Tryz.prog 26 = some 1 := by kernel_rfl
set_option maxRecDepth 100000 in
theorem calls_2 (T : Nat → Nat) (b : Nat) (M : MS) (w : World) (h : MR T w b M) (he : M.events.length < 8796093022208) (h17_1 : (M.x 17 == 1#64) = false) (h17 : (M.x 17 == 2#64) = true) : CallsR Tryz.prog 70 #[ptr b 0] w (fun v w' => TurnE T w b (callsM M).1 w' (callsM M).2 v) := by
  obtain ⟨bq, sd, ss, cv, iv, ev, en, hb, ht⟩ := h
  refine callsR_of Tryz.func70 rfl rfl rfl ?_
  refine WC.seq (WC.region (WL.assign (v := .nilIface) rfl rfl (WL.nil (WC.seq (WC.region (WL.move (v := ptr b 0) rfl rfl (WL.nilCheck rfl rfl (WL.fieldAddr rfl fo85_3 rfl (WL.indexArr (i := 10) ar68 sz39 rfl rfl (by omega) rfl ?_)))))))))
  refine WL.load1 rfl ag39 (hb.cell (j := 13) rfl) rfl (WL.conv rfl rfl (ConvR.u64i64 Tryz.underlying39 Tryz.underlying2) (WL.assign (v := I64 (M.x 10)) rfl rfl (WL.nil (WC.seq (WC.seq (WC.region (WL.move (v := ptr b 0) rfl rfl (WL.nilCheck rfl rfl (WL.fieldAddr rfl fo85_3 rfl ?_)))))))))
  refine WL.indexArr (i := 17) ar68 sz39 rfl rfl (by omega) rfl (WL.load1 rfl ag39 (hb.cell (j := 20) rfl) rfl (WL.nil (WC.block (WC.seq (WC.region (WL.bin (v := .bool (false)) rfl (vy := U64 (1#64)) rfl rfl (BinR.toB (BinR.eqlU64) (h17_1)) (WL.assign (v := .bool (false)) rfl rfl (WL.nil (WC.condF rfl ?_)))))))))
  refine WC.seq (WC.region (WL.bin (v := .bool (true)) rfl (vy := U64 (2#64)) rfl rfl (BinR.toB (BinR.eqlU64) (h17)) (WL.assign (v := .bool (true)) rfl rfl (WL.nil (WC.condT rfl (WC.seq (WC.region (WL.move (v := ptr b 0) rfl rfl (WL.move (v := I64 (M.x 10)) rfl rfl ?_)))))))))
  have mx : Mod (fun k => T k = 1) w w := Mod.refl _ _
  have hMx : MR T w b M := ⟨bq, sd, ss, cv, iv, ev, en, hb, ht.mod mx (fun k _ h1 e => h1 e)⟩
  refine WL.call ca96 (rfl) rfl (see_spec T b M 2#8 (M.x 10) _ hMx he) ?_
  rintro _ ws ⟨rfl, hsee⟩
  refine WL.nil (WC.seq (WC.region (WL.assign (v := .nilIface) rfl rfl (WL.nil (WC.ret ?_)))))
  have htn : TurnE T w b (callsM M).1 ws (callsM M).2 (.nilIface) := by unfold callsM; simp only [h17_1, h17, Bool.false_eq_true, if_false, if_true]; exact Turn.withEnd (mx.imp (fun k _ e => by show T k ≠ 0; rw [e]; decide)) hsee (Mod.refl _ _) (rfl) (fun e e' => by cases e')
  exact ⟨_, Res.one (v := .nilIface) rfl rfl, htn⟩
set_option maxRecDepth 100000 in
theorem calls_3 (T : Nat → Nat) (b : Nat) (M : MS) (w : World) (h : MR T w b M) (he : M.events.length < 8796093022208) (h17_1 : (M.x 17 == 1#64) = false) (h17_2 : (M.x 17 == 2#64) = false) (h17 : (M.x 17 == 3#64) = true) : CallsR Tryz.prog 70 #[ptr b 0] w (fun v w' => TurnE T w b (callsM M).1 w' (callsM M).2 v) := by
  obtain ⟨bq, sd, ss, cv, iv, ev, en, hb, ht⟩ := h
  refine callsR_of Tryz.func70 rfl rfl rfl ?_
  refine WC.seq (WC.region (WL.assign (v := .nilIface) rfl rfl (WL.nil (WC.seq (WC.region (WL.move (v := ptr b 0) rfl rfl (WL.nilCheck rfl rfl (WL.fieldAddr rfl fo85_3 rfl (WL.indexArr (i := 10) ar68 sz39 rfl rfl (by omega) rfl ?_)))))))))
  refine WL.load1 rfl ag39 (hb.cell (j := 13) rfl) rfl (WL.conv rfl rfl (ConvR.u64i64 Tryz.underlying39 Tryz.underlying2) (WL.assign (v := I64 (M.x 10)) rfl rfl (WL.nil (WC.seq (WC.seq (WC.region (WL.move (v := ptr b 0) rfl rfl (WL.nilCheck rfl rfl (WL.fieldAddr rfl fo85_3 rfl ?_)))))))))
  refine WL.indexArr (i := 17) ar68 sz39 rfl rfl (by omega) rfl (WL.load1 rfl ag39 (hb.cell (j := 20) rfl) rfl (WL.nil (WC.block (WC.seq (WC.region (WL.bin (v := .bool (false)) rfl (vy := U64 (1#64)) rfl rfl (BinR.toB (BinR.eqlU64) (h17_1)) (WL.assign (v := .bool (false)) rfl rfl (WL.nil (WC.condF rfl ?_)))))))))
  refine WC.seq (WC.region (WL.bin (v := .bool (false)) rfl (vy := U64 (2#64)) rfl rfl (BinR.toB (BinR.eqlU64) (h17_2)) (WL.assign (v := .bool (false)) rfl rfl (WL.nil (WC.condF rfl (WC.seq (WC.region (WL.bin (v := .bool (true)) rfl (vy := U64 (3#64)) rfl rfl (BinR.toB (BinR.eqlU64) (h17)) (WL.assign (v := .bool (true)) rfl rfl ?_)))))))))
  refine WL.nil (WC.condT rfl (WC.seq (WC.region (WL.move (v := ptr b 0) rfl rfl (WL.move (v := I64 (M.x 10)) rfl rfl ?_)))))
  have mx : Mod (fun k => T k = 1) w w := Mod.refl _ _
  have hMx : MR T w b M := ⟨bq, sd, ss, cv, iv, ev, en, hb, ht.mod mx (fun k _ h1 e => h1 e)⟩
  refine WL.call ca96 (rfl) rfl (see_spec T b M 3#8 (M.x 10) _ hMx he) ?_
  rintro _ ws ⟨rfl, hsee⟩
  refine WL.nil (WC.seq (WC.region (WL.build (v := .agg #[.bool (false)]) (vs := []) rfl (bld70_57) rfl (WL.box (v := .agg #[.bool (false)]) rfl rfl ?_))))
  intro b58 w58 n58
  have E1 : Ext ws w58 := Mod.trans (Mod.refl _ _) (n58.ext)
  refine WL.mkiface (v := ptr b58 0) rfl nif144 rfl (WL.assign (v := .iface 144 (ptr b58 0)) rfl rfl (WL.nil (WC.ret ?_)))
  have htn : TurnE T w b (callsM M).1 w58 (callsM M).2 (.iface 144 (ptr b58 0)) := by unfold callsM; simp only [h17_1, h17_2, h17, Bool.false_eq_true, if_false, if_true]; exact Turn.withEnd (mx.imp (fun k _ e => by show T k ≠ 0; rw [e]; decide)) hsee (E1) (EndV.new n58) (fun e e' => by cases e'; have := n58.num; omega)
  exact ⟨_, Res.one (v := .iface 144 (ptr b58 0)) rfl rfl, htn⟩
set_option maxRecDepth 100000 in
theorem calls_4 (T : Nat → Nat) (b : Nat) (M : MS) (w : World) (h : MR T w b M) (he : M.events.length < 8796093022208) (h17_1 : (M.x 17 == 1#64) = false) (h17_2 : (M.x 17 == 2#64) = false) (h17_3 : (M.x 17 == 3#64) = false) (h17 : (M.x 17 == 4#64) = true) : CallsR Tryz.prog 70 #[ptr b 0] w (fun v w' => TurnE T w b (callsM M).1 w' (callsM M).2 v) := by
  obtain ⟨bq, sd, ss, cv, iv, ev, en, hb, ht⟩ := h
  refine callsR_of Tryz.func70 rfl rfl rfl ?_
  refine WC.seq (WC.region (WL.assign (v := .nilIface) rfl rfl (WL.nil (WC.seq (WC.region (WL.move (v := ptr b 0) rfl rfl (WL.nilCheck rfl rfl (WL.fieldAddr rfl fo85_3 rfl (WL.indexArr (i := 10) ar68 sz39 rfl rfl (by omega) rfl ?_)))))))))
  refine WL.load1 rfl ag39 (hb.cell (j := 13) rfl) rfl (WL.conv rfl rfl (ConvR.u64i64 Tryz.underlying39 Tryz.underlying2) (WL.assign (v := I64 (M.x 10)) rfl rfl (WL.nil (WC.seq (WC.seq (WC.region (WL.move (v := ptr b 0) rfl rfl (WL.nilCheck rfl rfl (WL.fieldAddr rfl fo85_3 rfl ?_)))))))))
  refine WL.indexArr (i := 17) ar68 sz39 rfl rfl (by omega) rfl (WL.load1 rfl ag39 (hb.cell (j := 20) rfl) rfl (WL.nil (WC.block (WC.seq (WC.region (WL.bin (v := .bool (false)) rfl (vy := U64 (1#64)) rfl rfl (BinR.toB (BinR.eqlU64) (h17_1)) (WL.assign (v := .bool (false)) rfl rfl (WL.nil (WC.condF rfl ?_)))))))))
  refine WC.seq (WC.region (WL.bin (v := .bool (false)) rfl (vy := U64 (2#64)) rfl rfl (BinR.toB (BinR.eqlU64) (h17_2)) (WL.assign (v := .bool (false)) rfl rfl (WL.nil (WC.condF rfl (WC.seq (WC.region (WL.bin (v := .bool (false)) rfl (vy := U64 (3#64)) rfl rfl (BinR.toB (BinR.eqlU64) (h17_3)) (WL.assign (v := .bool (false)) rfl rfl ?_)))))))))
  refine WL.nil (WC.condF rfl (WC.seq (WC.region (WL.bin (v := .bool (true)) rfl (vy := U64 (4#64)) rfl rfl (BinR.toB (BinR.eqlU64) (h17)) (WL.assign (v := .bool (true)) rfl rfl (WL.nil (WC.condT rfl (WC.seq (WC.region ?_)))))))))
  refine WL.move (v := ptr b 0) rfl rfl (WL.move (v := I64 (M.x 10)) rfl rfl ?_)
  have mx : Mod (fun k => T k = 1) w w := Mod.refl _ _
  have hMx : MR T w b M := ⟨bq, sd, ss, cv, iv, ev, en, hb, ht.mod mx (fun k _ h1 e => h1 e)⟩
  refine WL.call ca96 (rfl) rfl (see_spec T b M 4#8 (M.x 10) _ hMx he) ?_
  rintro _ ws ⟨rfl, hsee⟩
  refine WL.nil (WC.seq (WC.region (WL.build (v := .agg #[.bool (false)]) (vs := []) rfl (bld70_65) rfl (WL.box (v := .agg #[.bool (false)]) rfl rfl ?_))))
  intro b66 w66 n66
  have E1 : Ext ws w66 := Mod.trans (Mod.refl _ _) (n66.ext)
  refine WL.mkiface (v := ptr b66 0) rfl nif144 rfl (WL.assign (v := .iface 144 (ptr b66 0)) rfl rfl (WL.nil (WC.ret ?_)))
  have htn : TurnE T w b (callsM M).1 w66 (callsM M).2 (.iface 144 (ptr b66 0)) := by unfold callsM; simp only [h17_1, h17_2, h17_3, h17, Bool.false_eq_true, if_false, if_true]; exact Turn.withEnd (mx.imp (fun k _ e => by show T k ≠ 0; rw [e]; decide)) hsee (E1) (EndV.new n66) (fun e e' => by cases e'; have := n66.num; omega)
  exact ⟨_, Res.one (v := .iface 144 (ptr b66 0)) rfl rfl, htn⟩
set_option maxRecDepth 100000 in
theorem calls_5 (T : Nat → Nat) (b : Nat) (M : MS) (w : World) (h : MR T w b M) (he : M.events.length < 8796093022208) (h17_1 : (M.x 17 == 1#64) = false) (h17_2 : (M.x 17 == 2#64) = false) (h17_3 : (M.x 17 == 3#64) = false) (h17_4 : (M.x 17 == 4#64) = false) : CallsR Tryz.prog 70 #[ptr b 0] w (fun v w' => TurnE T w b (callsM M).1 w' (callsM M).2 v) := by
  have hMR := h
  obtain ⟨bq, sd, ss, cv, iv, ev, en, hb, ht⟩ := h
  refine callsR_of Tryz.func70 rfl rfl rfl ?_
  refine WC.seq (WC.region (WL.assign (v := .nilIface) rfl rfl (WL.nil (WC.seq (WC.region (WL.move (v := ptr b 0) rfl rfl (WL.nilCheck rfl rfl (WL.fieldAddr rfl fo85_3 rfl (WL.indexArr (i := 10) ar68 sz39 rfl rfl (by omega) rfl ?_)))))))))
  refine WL.load1 rfl ag39 (hb.cell (j := 13) rfl) rfl (WL.conv rfl rfl (ConvR.u64i64 Tryz.underlying39 Tryz.underlying2) (WL.assign (v := I64 (M.x 10)) rfl rfl (WL.nil (WC.seq (WC.seq (WC.region (WL.move (v := ptr b 0) rfl rfl (WL.nilCheck rfl rfl (WL.fieldAddr rfl fo85_3 rfl ?_)))))))))
  refine WL.indexArr (i := 17) ar68 sz39 rfl rfl (by omega) rfl (WL.load1 rfl ag39 (hb.cell (j := 20) rfl) rfl (WL.nil (WC.block (WC.seq (WC.region (WL.bin (v := .bool (false)) rfl (vy := U64 (1#64)) rfl rfl (BinR.toB (BinR.eqlU64) (h17_1)) (WL.assign (v := .bool (false)) rfl rfl (WL.nil (WC.condF rfl ?_)))))))))
  refine WC.seq (WC.region (WL.bin (v := .bool (false)) rfl (vy := U64 (2#64)) rfl rfl (BinR.toB (BinR.eqlU64) (h17_2)) (WL.assign (v := .bool (false)) rfl rfl (WL.nil (WC.condF rfl (WC.seq (WC.region (WL.bin (v := .bool (false)) rfl (vy := U64 (3#64)) rfl rfl (BinR.toB (BinR.eqlU64) (h17_3)) (WL.assign (v := .bool (false)) rfl rfl ?_)))))))))
  refine WL.nil (WC.condF rfl (WC.seq (WC.region (WL.bin (v := .bool (false)) rfl (vy := U64 (4#64)) rfl rfl (BinR.toB (BinR.eqlU64) (h17_4)) (WL.assign (v := .bool (false)) rfl rfl (WL.nil (WC.condF rfl (WC.skip (WC.seq ?_)))))))))
  refine WC.region (WL.build (v := .agg #[.bool (true)]) (vs := [(0, .bool (true))]) rfl (bld70_68) rfl (WL.box (v := .agg #[.bool (true)]) rfl rfl ?_))
  intro b69 w69 n69
  have E1 : Ext w w69 := Mod.trans (Mod.refl _ _) (n69.ext)
  refine WL.mkiface (v := ptr b69 0) rfl nif144 rfl (WL.assign (v := .iface 144 (ptr b69 0)) rfl rfl (WL.nil (WC.ret ?_)))
  have htn : TurnE T w b (callsM M).1 w69 (callsM M).2 (.iface 144 (ptr b69 0)) := by unfold callsM; simp only [h17_1, h17_2, h17_3, h17_4, Bool.false_eq_true, if_false]; exact Turn.withEnd (Mod.refl _ _) (Turn.refl hMR) (E1) (EndV.new n69) (fun e e' => by cases e'; have := n69.num; omega)
  exact ⟨_, Res.one (v := .iface 144 (ptr b69 0)) rfl rfl, htn⟩
set_option maxRecDepth 100000 in
theorem calls_1a (T : Nat → Nat) (b : Nat) (M : MS) (w : World) (h : MR T w b M) (he : M.events.length < 8796093022208)  (h17 : (M.x 17 == 1#64) = true) (hin : M.input = []) : CallsR Tryz.prog 70 #[ptr b 0] w (fun v w' => TurnE T w b (callsM M).1 w' (callsM M).2 v) := by
  obtain ⟨bq, sd, ss, cv, iv, ev, en, hb, ht⟩ := h
  refine callsR_of Tryz.func70 rfl rfl rfl ?_
  refine WC.seq (WC.region (WL.assign (v := .nilIface) rfl rfl (WL.nil (WC.seq (WC.region (WL.move (v := ptr b 0) rfl rfl (WL.nilCheck rfl rfl (WL.fieldAddr rfl fo85_3 rfl (WL.indexArr (i := 10) ar68 sz39 rfl rfl (by omega) rfl ?_)))))))))
  refine WL.load1 rfl ag39 (hb.cell (j := 13) rfl) rfl (WL.conv rfl rfl (ConvR.u64i64 Tryz.underlying39 Tryz.underlying2) (WL.assign (v := I64 (M.x 10)) rfl rfl (WL.nil (WC.seq (WC.seq (WC.region (WL.move (v := ptr b 0) rfl rfl (WL.nilCheck rfl rfl (WL.fieldAddr rfl fo85_3 rfl ?_)))))))))
  refine WL.indexArr (i := 17) ar68 sz39 rfl rfl (by omega) rfl (WL.load1 rfl ag39 (hb.cell (j := 20) rfl) rfl (WL.nil (WC.block (WC.seq (WC.region (WL.bin (v := .bool (true)) rfl (vy := U64 (1#64)) rfl rfl (BinR.toB (BinR.eqlU64) (h17)) (WL.assign (v := .bool (true)) rfl rfl (WL.nil (WC.condT rfl ?_)))))))))
  refine WC.seq (WC.region (WL.assign (v := I64 (0#64)) rfl rfl (WL.nil (WC.seq (WC.seq (WC.region (WL.move (v := ptr b 0) rfl rfl (WL.nilCheck rfl rfl (WL.fieldAddr rfl fo85_2 rfl ?_)))))))))
  refine WL.load1 rfl ag26 (hb.cell (j := 2) rfl) rfl (WL.lenSl (sz := 1) (m := M.input.length) (xs := M.input.map I64) el26 rfl (ht.input) rfl (WL.bin rfl rfl rfl (BinR.gtr) (WL.nil (WC.condF (congrArg Value.bool (by rw [hin]; rfl)) (WC.skip (WC.seq (WC.region (WL.move (v := ptr b 0) rfl rfl (WL.move (v := I64 (0#64)) rfl rfl ?_)))))))))
  refine WL.conv rfl rfl (ConvR.i64u64 Tryz.underlying2 Tryz.underlying39) (WL.nilCheck rfl rfl (WL.fieldAddr rfl fo85_3 rfl (WL.indexArr (i := 10) ar68 sz39 rfl rfl (by omega) rfl (WL.storeB (v := U64 (0#64)) rfl rfl rfl sz39 hb (Nat.le_of_ble_eq_true rfl) ?_))))
  intro ws1 ms1 bs1 zs1
  have E1 : Mod (fun k => T k = 1) w ws1 := Mod.trans (Mod.refl _ _) ((ms1).imp (fun i _ e => by subst e; exact ht.tb))
  refine WL.nil (WC.seq (WC.region (WL.move (v := ptr b 0) rfl rfl (WL.move (v := I64 (0#64)) rfl rfl ?_))))
  have mx : Mod (fun k => T k = 1) w ws1 := E1
  have hMx : MR T ws1 b { M with input := [], x := updR M.x 10 0#64 } := ⟨bq, sd, ss, cv, iv, ev, en, bs1, (ht.mod mx (fun k _ h1 e => h1 e)).self (by have hi := ht.input.mod' mx (fun g e k => by have := ht.ti g e; omega); rw [hin] at hi; exact hi) rfl (updR M.x 10 0#64) M.pc M.steps⟩
  refine WL.call ca96 (rfl) rfl (see_spec T b { M with input := [], x := updR M.x 10 0#64 } 1#8 (0#64) _ hMx he) ?_
  rintro _ ws ⟨rfl, hsee⟩
  refine WL.nil (WC.seq (WC.region (WL.assign (v := .nilIface) rfl rfl (WL.nil (WC.ret ?_)))))
  have htn : TurnE T w b (callsM M).1 ws (callsM M).2 (.nilIface) := by unfold callsM; simp only [h17, if_true, hin, List.headD_cons, List.headD_nil, List.tail_cons, List.tail_nil]; exact Turn.withEnd (mx.imp (fun k _ e => by show T k ≠ 0; rw [e]; decide)) hsee (Mod.refl _ _) rfl (fun e e' => by cases e')
  exact ⟨_, Res.one (v := .nilIface) rfl rfl, htn⟩
set_option maxRecDepth 100000 in
theorem calls_1b (T : Nat → Nat) (b : Nat) (M : MS) (w : World) (h : MR T w b M) (he : M.events.length < 8796093022208)  (h17 : (M.x 17 == 1#64) = true) (n : BitVec 64) (r : List (BitVec 64)) (hin : M.input = n :: r) : CallsR Tryz.prog 70 #[ptr b 0] w (fun v w' => TurnE T w b (callsM M).1 w' (callsM M).2 v) := by
  obtain ⟨bq, sd, ss, cv, iv, ev, en, hb, ht⟩ := h
  obtain ⟨gi, oi, ci, hiv, hic⟩ := ht.input.at (by rw [hin]; exact Nat.succ_pos _)
  have hcin : w.cell? ⟨gi, oi, none⟩ = some (I64 n) := hic 0 (I64 n) (by rw [hin]; rfl)
  have hgi : ¬ T gi = 1 := by have := ht.ti gi (by rw [hiv]; rfl); omega
  refine callsR_of Tryz.func70 rfl rfl rfl ?_
  refine WC.seq (WC.region (WL.assign (v := .nilIface) rfl rfl (WL.nil (WC.seq (WC.region (WL.move (v := ptr b 0) rfl rfl (WL.nilCheck rfl rfl (WL.fieldAddr rfl fo85_3 rfl (WL.indexArr (i := 10) ar68 sz39 rfl rfl (by omega) rfl ?_)))))))))
  refine WL.load1 rfl ag39 (hb.cell (j := 13) rfl) rfl (WL.conv rfl rfl (ConvR.u64i64 Tryz.underlying39 Tryz.underlying2) (WL.assign (v := I64 (M.x 10)) rfl rfl (WL.nil (WC.seq (WC.seq (WC.region (WL.move (v := ptr b 0) rfl rfl (WL.nilCheck rfl rfl (WL.fieldAddr rfl fo85_3 rfl ?_)))))))))
  refine WL.indexArr (i := 17) ar68 sz39 rfl rfl (by omega) rfl (WL.load1 rfl ag39 (hb.cell (j := 20) rfl) rfl (WL.nil (WC.block (WC.seq (WC.region (WL.bin (v := .bool (true)) rfl (vy := U64 (1#64)) rfl rfl (BinR.toB (BinR.eqlU64) (h17)) (WL.assign (v := .bool (true)) rfl rfl (WL.nil (WC.condT rfl ?_)))))))))
  refine WC.seq (WC.region (WL.assign (v := I64 (0#64)) rfl rfl (WL.nil (WC.seq (WC.seq (WC.region (WL.move (v := ptr b 0) rfl rfl (WL.nilCheck rfl rfl (WL.fieldAddr rfl fo85_2 rfl ?_)))))))))
  refine WL.load1 rfl ag26 (hb.cell (j := 2) rfl) rfl (WL.lenSl (sz := 1) (m := M.input.length) (xs := M.input.map I64) el26 rfl (ht.input) rfl (WL.bin rfl rfl rfl (BinR.gtr) (WL.nil (WC.condT (congrArg Value.bool (by rw [hin]; exact decide_eq_true (by simp only [List.length_cons]; omega))) (WC.drawL (fun w_ => Ext w w_) 15 16 rfl mixed ?_)))))
  intro wd_6 ed_6
  have R1 : Ext w wd_6 := Mod.trans (Mod.refl _ _) (ed_6)
  have E2 : Mod (fun k => T k = 1) w wd_6 := Mod.trans (Mod.refl _ _) (Mod.ext (ed_6))
  refine WAL.take (i := 0) (m' := 1) (v := ptr b 0) rfl rfl rfl rfl (by kernel_rfl) rfl (fun _ _ _ h => h) (fun wx hS => ?_) (R1) ?_
  · exact WL.move (v := ptr b 0) rfl rfl (WL.nil ⟨rfl, rfl, rfl⟩)
  refine WAL.take (i := 1) (m' := 3) (v := ptr b 0) rfl rfl rfl rfl (by kernel_rfl) rfl (fun _ _ _ h => h) (fun wx hS => ?_) (R1) ?_
  · exact WL.move (v := ptr b 0) rfl rfl (WL.nil ⟨rfl, rfl, rfl⟩)
  refine WAL.take (i := 2) (m' := 7) (v := ptr b 0) rfl rfl rfl rfl (by kernel_rfl) rfl (fun _ _ _ h => h) (fun wx hS => ?_) (R1) ?_
  · exact WL.nilCheck rfl rfl (WL.nil ⟨rfl, rfl, rfl⟩)
  refine WAL.take (i := 3) (m' := 15) (v := ptr b 2) rfl rfl rfl rfl (by kernel_rfl) rfl (fun _ _ _ h => h) (fun wx hS => ?_) (R1) ?_
  · exact WL.fieldAddr rfl fo85_2 rfl (WL.nil ⟨rfl, rfl, rfl⟩)
  refine WAL.take (i := 4) (m' := 31) (v := iv) rfl rfl rfl rfl (by kernel_rfl) rfl (fun _ _ _ h => h) (fun wx hS => ?_) (R1) ?_
  · have B8 := (hb).ext (hS)
    exact WL.load1 rfl ag26 (B8.cell (j := 2) rfl) rfl (WL.nil ⟨rfl, rfl, rfl⟩)
  refine WAL.take (i := 5) (m' := 63) (v := ptr gi (oi + 0 * 1)) rfl rfl rfl rfl (by kernel_rfl) rfl (fun _ _ _ h => h) (fun wx hS => ?_) (R1) ?_
  · exact WL.indexAddr (i := 0) (b := gi) (o := oi) el26 sz2 (Eq.trans (rfl) hiv) rfl (by rw [hin]; exact Nat.succ_pos _) rfl (WL.nil ⟨rfl, rfl, rfl⟩)
  refine WAL.take (i := 6) (m' := 127) (v := I64 (n)) rfl rfl rfl rfl (by kernel_rfl) rfl (fun _ _ _ h => h) (fun wx hS => ?_) (R1) ?_
  · have E10 : Mod (fun k => T k = 1) w wx := Mod.trans (Mod.refl _ _) (Mod.ext (hS))
    exact WL.load1 rfl ag2 (Mod.cell (E10) hcin hgi) rfl (WL.nil ⟨rfl, rfl, rfl⟩)
  refine WAL.take (i := 7) (m' := 255) (v := ptr b 0) rfl rfl rfl rfl (by kernel_rfl) rfl (fun _ _ _ h => h) (fun wx hS => ?_) (R1) ?_
  · exact WL.move (v := ptr b 0) rfl rfl (WL.nil ⟨rfl, rfl, rfl⟩)
  refine WAL.take (i := 8) (m' := 511) (v := ptr b 0) rfl rfl rfl rfl (by kernel_rfl) rfl (fun _ _ _ h => h) (fun wx hS => ?_) (R1) ?_
  · exact WL.nilCheck rfl rfl (WL.nil ⟨rfl, rfl, rfl⟩)
  refine WAL.take (i := 9) (m' := 1023) (v := ptr b 2) rfl rfl rfl rfl (by kernel_rfl) rfl (fun _ _ _ h => h) (fun wx hS => ?_) (R1) ?_
  · exact WL.fieldAddr rfl fo85_2 rfl (WL.nil ⟨rfl, rfl, rfl⟩)
  refine WAL.take (i := 10) (m' := 2047) (v := iv) rfl rfl rfl rfl (by kernel_rfl) rfl (fun _ _ _ h => h) (fun wx hS => ?_) (R1) ?_
  · have B15 := (hb).ext (hS)
    exact WL.load1 rfl ag26 (B15.cell (j := 2) rfl) rfl (WL.nil ⟨rfl, rfl, rfl⟩)
  refine WAL.take (i := 11) (m' := 4095) (v := (sliceV iv 1 1)) rfl rfl rfl rfl (by kernel_rfl) rfl (fun _ _ _ h => h) (fun wx hS => ?_) (R1) ?_
  · have S17 := (ht.input).ext' (hS)
    exact WL.sliceFromV (sz := 1) (m := M.input.length) (xs := M.input.map I64) (j := 1) el26 sz2 rfl rfl (by rw [hin]; exact Nat.succ_pos _) S17 rfl (WL.nil ⟨rfl, rfl, rfl⟩)
  refine WAL.take (i := 12) (m' := 8191) (v := I64 (n)) rfl rfl rfl rfl (by kernel_rfl) rfl (fun _ _ _ h => h) (fun wx hS => ?_) (R1) ?_
  · exact WL.assign (v := I64 (n)) rfl rfl (WL.nil ⟨rfl, rfl, rfl⟩)
  refine WAL.one (i := 13) (m' := 16383) (by kernel_rfl) rfl rfl ?_
  refine WL.nilCheck rfl rfl (WL.behindS (R1) ?_)
  refine WAL.take (i := 14) (m' := 32767) (v := ptr b 2) rfl rfl rfl rfl (by kernel_rfl) rfl (fun _ _ _ h => h) (fun wx hS => ?_) (R1) ?_
  · exact WL.fieldAddr rfl fo85_2 rfl (WL.nil ⟨rfl, rfl, rfl⟩)
  refine WAL.one (i := 15) (m' := 65535) (by kernel_rfl) rfl rfl ?_
  have B20 := (hb).ext (ed_6)
  refine WL.storeB (v := (sliceV iv 1 1)) rfl rfl ((ht.input.from (j := 1) (by rw [hin]; exact Nat.succ_pos _)).1).one sz26 B20 (Nat.le_of_ble_eq_true rfl) ?_
  intro ws21 ms21 bs21 zs21
  have E21 : Mod (fun k => T k = 1) w ws21 := Mod.trans (E2) ((ms21).imp (fun i _ e => by subst e; exact ht.tb))
  refine WL.behindL (by kernel_rfl) ?_
  refine WAL.done (by kernel_rfl) ?_
  refine WC.seq (WC.region (WL.move (v := ptr b 0) rfl rfl (WL.move (v := I64 (n)) rfl rfl (WL.conv rfl rfl (ConvR.i64u64 Tryz.underlying2 Tryz.underlying39) (WL.nilCheck rfl rfl (WL.fieldAddr rfl fo85_3 rfl (WL.indexArr (i := 10) ar68 sz39 rfl rfl (by omega) rfl (WL.storeB (v := U64 (n)) rfl rfl rfl sz39 bs21 (Nat.le_of_ble_eq_true rfl) ?_))))))))
  intro ws22 ms22 bs22 zs22
  have E22 : Mod (fun k => T k = 1) w ws22 := Mod.trans (E21) ((ms22).imp (fun i _ e => by subst e; exact ht.tb))
  refine WL.nil (WC.seq (WC.region (WL.move (v := ptr b 0) rfl rfl (WL.move (v := I64 (n)) rfl rfl ?_))))
  have mx : Mod (fun k => T k = 1) w ws22 := E22
  have hMx : MR T ws22 b { M with input := r, x := updR M.x 10 n } := ⟨bq, sd, ss, cv, (sliceV iv 1 1), ev, en, bs22, (ht.mod mx (fun k _ h1 e => h1 e)).self (by have hi := (ht.input.mod' mx (fun g e k => by have := ht.ti g e; omega)).from (j := 1) (by rw [hin]; exact Nat.succ_pos _); rw [hin] at hi; simpa using hi.1) ((ht.input.from (j := 1) (by rw [hin]; exact Nat.succ_pos _)).2) (updR M.x 10 n) M.pc M.steps⟩
  refine WL.call ca96 (rfl) rfl (see_spec T b { M with input := r, x := updR M.x 10 n } 1#8 (n) _ hMx he) ?_
  rintro _ ws ⟨rfl, hsee⟩
  refine WL.nil (WC.seq (WC.region (WL.assign (v := .nilIface) rfl rfl (WL.nil (WC.ret ?_)))))
  have htn : TurnE T w b (callsM M).1 ws (callsM M).2 (.nilIface) := by unfold callsM; simp only [h17, if_true, hin, List.headD_cons, List.headD_nil, List.tail_cons, List.tail_nil]; exact Turn.withEnd (mx.imp (fun k _ e => by show T k ≠ 0; rw [e]; decide)) hsee (Mod.refl _ _) rfl (fun e e' => by cases e')
  exact ⟨_, Res.one (v := .nilIface) rfl rfl, htn⟩
theorem calls_spec (T : Nat → Nat) (b : Nat) (M : MS) (w : World) (h : MR T w b M) (he : M.events.length < 8796093022208) : CallsR Tryz.prog 70 #[ptr b 0] w (fun v w' => TurnE T w b (callsM M).1 w' (callsM M).2 v) := by
  rcases Bool.eq_false_or_eq_true (M.x 17 == 1#64) with h1 | h1
  · rcases hi : M.input with _ | ⟨n, r⟩
    · exact calls_1a T b M w h he h1 hi
    · exact calls_1b T b M w h he h1 n r hi
  rcases Bool.eq_false_or_eq_true (M.x 17 == 2#64) with h2 | h2
  · exact calls_2 T b M w h he h1 h2
  rcases Bool.eq_false_or_eq_true (M.x 17 == 3#64) with h3 | h3
  · exact calls_3 T b M w h he h1 h2 h3
  rcases Bool.eq_false_or_eq_true (M.x 17 == 4#64) with h4 | h4
  · exact calls_4 T b M w h he h1 h2 h3 h4
  · exact calls_5 T b M w h he h1 h2 h3 h4
end Go.Proofs.S
end
section
set_option linter.unusedSimpArgs false
set_option linter.unusedVariables false
namespace Go.Proofs.M
open Go Go.Ux Go.Ux.Mach Go.Proofs
theorem zt118 : zeroT Tryz.prog 118 = some #[.bool false, .bool false, .bool false, .slice none 0 0, .int .i64 0, .bool false, .int .u32 0, .string ⟨#[]⟩, .int .u32 0] := by kernel_rfl
theorem bls91_22 (z0 z1 z2 : BitVec 32) : ∀ w : World, (Instr.buildSlice 23 3 #[(0, U32 (z0)), (1, U32 (z1)), (2, U32 (z2))]).run Tryz.prog w = .ok (.slice (some ⟨w.heap.size, 0, none⟩) 3 3) (w.alloc (.cells #[U32 (z0), U32 (z1), U32 (z2)] 50)) := fun _ => by kernel_rfl
theorem ca51 : callable Tryz.prog 51 = true := by kernel_rfl
theorem bld91_24 (p q r : Bool) (a : Option Addr) (l c : Nat) (n : Nat) (g : Bool) (m : BitVec 32) (nm : List UInt8) (t : BitVec 32) : ∀ w : World, (Instr.build 118 #[(0, .agg #[.bool (p), .bool (q), .bool (r), .slice a l c, IN (n), .bool (g), U32 (m)]), (1, St nm), (2, U32 (t))]).run Tryz.prog w = .ok (.agg #[.bool (p), .bool (q), .bool (r), .slice a l c, IN (n), .bool (g), U32 (m), St nm, U32 (t)]) w := fun _ => by kernel_rfl
theorem sz118 : sizeT Tryz.prog 118 = some 9 := by kernel_rfl
theorem ag118 : isAggT Tryz.prog 118 = some true := by kernel_rfl
theorem tells_spec (w : World) (hG : Glob w) (kf : FK) (iv : Value) (hI : Sl w iv 2 (formOf kf).imm.length (bitsCells (formOf kf).imm)) (nm : List UInt8) (a1 a2 a3 : BitVec 32) : CallsR Tryz.prog 91 #[.agg #[.bool ((formOf kf).rd), .bool ((formOf kf).rs1), .bool ((formOf kf).rs2), iv, IN ((formOf kf).noughts), .bool ((formOf kf).signed), U32 ((formOf kf).mask)], St nm, U32 (a1), U32 (a2), U32 (a3)] w (fun v w' => v = rowVal iv (tellsD kf nm a1 a2 a3) ∧ Ext w w') := by
  refine callsR_of Tryz.func91 rfl rfl rfl ?_
  refine WC.seq (WC.region (WL.box (v := .agg #[.bool ((formOf kf).rd), .bool ((formOf kf).rs1), .bool ((formOf kf).rs2), iv, IN ((formOf kf).noughts), .bool ((formOf kf).signed), U32 ((formOf kf).mask)]) rfl rfl ?_))
  intro b5 w5 n5
  have E1 : Ext w w5 := Mod.trans (Mod.refl _ _) (n5.ext)
  refine WL.alloc zt118 rfl ?_
  intro b10 w10 n10
  have E2 : Ext w w10 := Mod.trans (E1) (n10.ext)
  refine WL.nil (WC.seq (WC.draw (fun w_ => Ext w w_ ∧ Blk w_ b5 #[.bool ((formOf kf).rd), .bool ((formOf kf).rs1), .bool ((formOf kf).rs2), iv, IN ((formOf kf).noughts), .bool ((formOf kf).signed), U32 ((formOf kf).mask)] 116) 15 rfl mixed ?_))
  intro wd_1 ed_1
  have E3 : Ext w wd_1 := Mod.trans (E2) (ed_1)
  have B4 := ((n5.blk).ext (n10.ext)).ext (ed_1)
  refine WA.take (i := 0) (m' := 1) (v := .agg #[.bool ((formOf kf).rd), .bool ((formOf kf).rs1), .bool ((formOf kf).rs2), iv, IN ((formOf kf).noughts), .bool ((formOf kf).signed), U32 ((formOf kf).mask)]) rfl rfl rfl rfl (by kernel_rfl) rfl (fun _ _ _ h => h) (fun wx hS => ?_) (⟨E3, B4⟩) ?_
  · exact WL.loadS [.bool ((formOf kf).rd), .bool ((formOf kf).rs1), .bool ((formOf kf).rs2), iv, IN ((formOf kf).noughts), .bool ((formOf kf).signed), U32 ((formOf kf).mask)] rfl ag116 sz116 rfl (hS.2.sub (o := 0) (vs := [.bool ((formOf kf).rd), .bool ((formOf kf).rs1), .bool ((formOf kf).rs2), iv, IN ((formOf kf).noughts), .bool ((formOf kf).signed), U32 ((formOf kf).mask)]) rfl) rfl (WL.nil ⟨rfl, rfl, rfl⟩)
  refine WA.take (i := 1) (m' := 3) (v := St nm) rfl rfl rfl rfl (by kernel_rfl) rfl (fun _ _ _ h => h) (fun wx hS => ?_) (⟨E3, B4⟩) ?_
  · exact WL.move (v := St nm) rfl rfl (WL.nil ⟨rfl, rfl, rfl⟩)
  refine WA.take (i := 2) (m' := 7) (v := U32 (a1)) rfl rfl rfl rfl (by kernel_rfl) rfl (fun _ _ _ h => h) (fun wx hS => ?_) (⟨E3, B4⟩) ?_
  · exact WL.move (v := U32 (a1)) rfl rfl (WL.nil ⟨rfl, rfl, rfl⟩)
  refine WA.take (i := 3) (m' := 15) (v := U32 (a2)) rfl rfl rfl rfl (by kernel_rfl) rfl (fun _ _ _ h => h) (fun wx hS => ?_) (⟨E3, B4⟩) ?_
  · exact WL.move (v := U32 (a2)) rfl rfl (WL.nil ⟨rfl, rfl, rfl⟩)
  refine WA.take (i := 4) (m' := 31) (v := ptr 4 0) rfl rfl rfl rfl (by kernel_rfl) rfl (fun _ _ _ h => h) (fun wx hS => ?_) (⟨E3, B4⟩) ?_
  · exact WL.fieldAddr rfl fo125_0 rfl (WL.nil ⟨rfl, rfl, rfl⟩)
  refine WA.take (i := 5) (m' := 63) (v := IN (12)) rfl rfl rfl rfl (by kernel_rfl) rfl (fun _ _ _ h => h) (fun wx hS => ?_) (⟨E3, B4⟩) ?_
  · exact WL.load1 rfl ag3 ((hG.ext (hS.1)).f3 0 _ rfl) rfl (WL.nil ⟨rfl, rfl, rfl⟩)
  refine WA.take (i := 6) (m' := 127) (v := U32 ((a2 <<< (12)))) rfl rfl rfl rfl (by kernel_rfl) rfl (fun _ _ _ h => h) (fun wx hS => ?_) (⟨E3, B4⟩) ?_
  · exact WL.bin rfl rfl rfl (BinR.shlU32) (WL.nil ⟨rfl, rfl, rfl⟩)
  refine WA.take (i := 7) (m' := 255) (v := U32 (a3)) rfl rfl rfl rfl (by kernel_rfl) rfl (fun _ _ _ h => h) (fun wx hS => ?_) (⟨E3, B4⟩) ?_
  · exact WL.move (v := U32 (a3)) rfl rfl (WL.nil ⟨rfl, rfl, rfl⟩)
  refine WA.take (i := 8) (m' := 511) (v := ptr 5 0) rfl rfl rfl rfl (by kernel_rfl) rfl (fun _ _ _ h => h) (fun wx hS => ?_) (⟨E3, B4⟩) ?_
  · exact WL.fieldAddr rfl fo125_0 rfl (WL.nil ⟨rfl, rfl, rfl⟩)
  refine WA.take (i := 9) (m' := 1023) (v := IN (25)) rfl rfl rfl rfl (by kernel_rfl) rfl (fun _ _ _ h => h) (fun wx hS => ?_) (⟨E3, B4⟩) ?_
  · exact WL.load1 rfl ag3 ((hG.ext (hS.1)).f7 0 _ rfl) rfl (WL.nil ⟨rfl, rfl, rfl⟩)
  refine WA.take (i := 10) (m' := 2047) (v := U32 ((a3 <<< (25)))) rfl rfl rfl rfl (by kernel_rfl) rfl (fun _ _ _ h => h) (fun wx hS => ?_) (⟨E3, B4⟩) ?_
  · exact WL.bin rfl rfl rfl (BinR.shlU32) (WL.nil ⟨rfl, rfl, rfl⟩)
  refine WA.one (i := 11) (m' := 4095) (by kernel_rfl) rfl rfl ?_
  refine WL.buildSlice (vs := [(0, U32 (a1)), (1, U32 ((a2 <<< (12)))), (2, U32 ((a3 <<< (25))))]) rfl (bls91_22 a1 (a2 <<< 12) (a3 <<< 25)) rfl ?_
  intro b22 w22 n22
  have E5 : Ext w w22 := Mod.trans (E3) (n22.ext)
  have B6 := (B4).ext (n22.ext)
  refine WL.behind (⟨E5, B6⟩) ?_
  refine WA.one (i := 12) (m' := 8191) (by kernel_rfl) rfl rfl ?_
  refine WL.call ca51 (rfl) rfl (together_spec (.slice (some ⟨b22, 0, none⟩) 3 3) [a1, a2 <<< 12, a3 <<< 25] _ (Sl.ofCells (n22.blk).cells rfl) (by simp)) ?_
  rintro _ wd23 ⟨rfl, ed23⟩
  have E7 : Ext w wd23 := Mod.trans (E5) (ed23)
  have B8 := (B6).ext (ed23)
  refine WL.behind (⟨E7, B8⟩) ?_
  refine WA.take (i := 13) (m' := 16383) (v := .agg #[.bool ((formOf kf).rd), .bool ((formOf kf).rs1), .bool ((formOf kf).rs2), iv, IN ((formOf kf).noughts), .bool ((formOf kf).signed), U32 ((formOf kf).mask), St nm, U32 (tog [a1, a2 <<< 12, a3 <<< 25])]) rfl rfl rfl rfl (by kernel_rfl) rfl (fun _ _ _ h => h) (fun wx hS => ?_) (⟨E7, B8⟩) ?_
  · exact WL.build (v := .agg #[.bool ((formOf kf).rd), .bool ((formOf kf).rs1), .bool ((formOf kf).rs2), iv, IN ((formOf kf).noughts), .bool ((formOf kf).signed), U32 ((formOf kf).mask), St nm, U32 (tog [a1, a2 <<< 12, a3 <<< 25])]) (vs := [(0, .agg #[.bool ((formOf kf).rd), .bool ((formOf kf).rs1), .bool ((formOf kf).rs2), iv, IN ((formOf kf).noughts), .bool ((formOf kf).signed), U32 ((formOf kf).mask)]), (1, St nm), (2, U32 (tog [a1, a2 <<< 12, a3 <<< 25]))]) rfl (by obtain ⟨a, l, c, e⟩ := hI.slc; rw [e]; exact bld91_24 _ _ _ a l c _ _ _ _ _) rfl (WL.nil ⟨rfl, rfl, rfl⟩)
  refine WA.one (i := 14) (m' := 32767) (by kernel_rfl) rfl rfl ?_
  have B9 := (((n10.blk).ext (ed_1)).ext (n22.ext)).ext (ed23)
  refine WL.storeS (v := .agg #[.bool ((formOf kf).rd), .bool ((formOf kf).rs1), .bool ((formOf kf).rs2), iv, IN ((formOf kf).noughts), .bool ((formOf kf).signed), U32 ((formOf kf).mask), St nm, U32 (tog [a1, a2 <<< 12, a3 <<< 25])]) rfl rfl B9 rfl sz118 rfl (ones_row hI.one _ _ _ _ _ _ _ _) ?_
  intro ws10 ms10 bs10 zs10
  have E10 : Ext w ws10 := Mod.own (E1) n10 (E7) (ms10)
  have B11 := (B8).mod (ms10) (n5.blk.ne n10)
  refine WL.behind (⟨E10, B11⟩) ?_
  refine WA.done (by kernel_rfl) ?_
  refine WC.ret ?_
  exact ⟨_, Res.cell rfl rfl (loadVar_agg [.bool ((formOf kf).rd), .bool ((formOf kf).rs1), .bool ((formOf kf).rs2), iv, IN ((formOf kf).noughts), .bool ((formOf kf).signed), U32 ((formOf kf).mask), St nm, U32 (tog [a1, a2 <<< 12, a3 <<< 25])] ag118 sz118 rfl (bs10.sub (o := 0) rfl)), rfl, E10⟩
end Go.Proofs.M
end
section
set_option linter.unusedSimpArgs false
set_option linter.unusedVariables false
namespace Go.Proofs.M
open Go Go.Ux Go.Ux.Mach Go.Proofs
def ivT (b12 b15 b18 b22 b28 b31 b37 : Nat) : FK → Value := (fun k => match k with | .I => .slice (some ⟨b12, 0, none⟩) 1 1 | .H => .slice (some ⟨b15, 0, none⟩) 1 1 | .W => .slice (some ⟨b18, 0, none⟩) 1 1 | .S => .slice (some ⟨b22, 0, none⟩) 2 2 | .B => .slice (some ⟨b28, 0, none⟩) 4 4 | .U => .slice (some ⟨b31, 0, none⟩) 1 1 | .J => .slice (some ⟨b37, 0, none⟩) 4 4 | _ => .slice none 0 0)
def tableV (iv : FK → Value) : Value := .agg (tableD.flatMap (rowCells iv)).toArray
theorem ivT_ok {w : World} (b12 b15 b18 b22 b28 b31 b37 : Nat) (h12 : Blk w b12 (bitsCells (formOf .I).imm).toArray 125) (h15 : Blk w b15 (bitsCells (formOf .H).imm).toArray 125) (h18 : Blk w b18 (bitsCells (formOf .W).imm).toArray 125) (h22 : Blk w b22 (bitsCells (formOf .S).imm).toArray 125) (h28 : Blk w b28 (bitsCells (formOf .B).imm).toArray 125) (h31 : Blk w b31 (bitsCells (formOf .U).imm).toArray 125) (h37 : Blk w b37 (bitsCells (formOf .J).imm).toArray 125) : ∀ k, Sl w (ivT b12 b15 b18 b22 b28 b31 b37 k) 2 (formOf k).imm.length (bitsCells (formOf k).imm) := by
  intro k
  cases k <;> first | exact Sl.nil _ _ _ | exact Sl.ofCells h12.cells rfl | exact Sl.ofCells h15.cells rfl | exact Sl.ofCells h18.cells rfl | exact Sl.ofCells h22.cells rfl | exact Sl.ofCells h28.cells rfl | exact Sl.ofCells h31.cells rfl | exact Sl.ofCells h37.cells rfl
theorem ivT_from {B : Nat} (b12 b15 b18 b22 b28 b31 b37 : Nat) (h12 : B ≤ b12) (h15 : B ≤ b15) (h18 : B ≤ b18) (h22 : B ≤ b22) (h28 : B ≤ b28) (h31 : B ≤ b31) (h37 : B ≤ b37) : ∀ k, From B (ivT b12 b15 b18 b22 b28 b31 b37 k) := by
  intro k g hg
  cases k <;> simp only [ivT, Value.ownBlock, Option.some.injEq, reduceCtorEq] at hg <;> omega
end Go.Proofs.M
end
