/- Steps of the proof, packed by program: McLoad McT2 McT3 McT4 McT5 McT6 MiX1 MiX2 MiX3. -/
import Derived.Test.YtlabgjcjccdjfaaGreatDoorRows
import Derived.Test.YtlabgjcjccdjfaaGreatDoorMpackQ02
import Derived.Test.YtlabgjcjccdjfaaGreatDoorMpackQ05
import Derived.Test.YtlabgjcjccdjfaaGreatDoorMpackQ06
set_option linter.unusedVariables false
set_option linter.unusedSimpArgs false
set_option linter.unnecessarySimpa false
set_option maxRecDepth 100000
section
namespace Go.Proofs.S
open Go Go.Ux Go.Ux.Mach Go.RowKit Go.Shelf Go.Proofs
open Tryz
attribute [local go_sem] Oper.semAt_some
def loadV (d s : Nat → BitVec 8) (k : Bool) (off size : Nat) (signs : Bool) : BitVec 64 :=
 if signs then signW (loadB (if k then d else s) off size) (8 * size) else loadB (if k then d else s) off size
def LoadR (w : World) (d s : Nat → BitVec 8) (n : Nat) (addr : BitVec 64) (size : Nat) (signs : Bool) (v : Value) (w' : World) : Prop :=
 match whereM n addr size with
 | none => ∃ e, v = .tuple #[.int .u64 0, .iface 144 (ptr e 0)] ∧ Blk w' e #[.bool true] 148 ∧ w.heap.size ≤ e
 | some (k, off) => v = .tuple #[U64 (loadV d s k off size signs), .nilIface]
theorem nil45 (w : World) : (binOp .eql 45 (.slice none 0 0) (.slice none 0 0)).run prog w = .ok (.bool true) w := by kernel_rfl
theorem non45 (a : Addr) (n c : Nat) (w : World) : (binOp .eql 45 (.slice (some a) n c) (.slice none 0 0)).run prog w = .ok (.bool false) w := by
 have e : (Op.equal 45 (.slice (some a) n c) (.slice none 0 0)).run prog w = .ok false w := equalIn_sl 9999 y45 w
 simp only [binOp, Sem.run_bind, Sem.run_pure, Result.andThen]; simp [e]
def valB (pre : List (Int × BitVec 8)) : BitVec 64 := pre.foldl (fun v x => (v <<< 8) ||| x.2.setWidth 64) 0#64
theorem valB_snoc (pre : List (Int × BitVec 8)) (x : Int × BitVec 8) : valB (pre ++ [x]) = (valB pre <<< 8) ||| x.2.setWidth 64 := by simp [valB]
theorem valB_back (f : Nat → BitVec 8) (o size : Nat) : ∀ k, valB (backB (fun j => f (o + j)) size k) = loadR f o size k
 | 0 => rfl
 | k + 1 => by
  have e : backB (fun j => f (o + j)) size (k + 1) = backB (fun j => f (o + j)) size k ++ [((size : Int) - 1 - (k : Int), f (o + (size - 1 - k)))] := upto_succ _ k
  rw [e, valB_snoc, valB_back f o size k]; rfl
theorem step8 (x : BitVec 64) (c : BitVec 8) : Value.int .u64 (Go.bits .or .u64 (IntKind.u64.wrap ((x.toNat : Int) * 256)) (c.toNat : Int)) = U64 ((x <<< 8) ||| c.setWidth 64) := by
 have h1 : IntKind.u64.wrap ((x.toNat : Int) * 256) = ((x <<< 8).toNat : Int) := by
  rw [wrap_u64_bv]
  congr 1
  rw [BitVec.toNat_shiftLeft, BitVec.toNat_ofInt, Nat.shiftLeft_eq]
  omega
 have h2 : (c.toNat : Int) = ((c.setWidth 64).toNat : Int) := by
  rw [BitVec.toNat_setWidth]
  omega
 rw [h1, h2]
 have e : Go.bits .or .u64 ((x <<< 8).toNat : Int) ((c.setWidth 64).toNat : Int) = IntKind.u64.wrap (((x <<< 8) ||| c.setWidth 64).toNat : Int) := by
  unfold Go.bits; simp only [IntKind.bits, ofInt_toNat_id]; rfl
 rw [e, wrap_u64_bv, ofInt_toNat_id]
attribute [local go_sem] nil45 non45
set_option maxHeartbeats 4000000 in
theorem load_spec (b bq n : Nat) (sd ss : Value) (d s : Nat → BitVec 8) (addr : BitVec 64) (size : Nat) (signs : Bool) (w : World) (hM : w.cell? ⟨b, 0, none⟩ = some (.slice (some ⟨bq, 0, none⟩) 2 2)) (hB : Blk w bq #[U64 4194304#64, sd, U64 8323072#64, ss] 91) (hd : Ux.Own w 1 sd n (bsV d n)) (hs : Ux.Own w 1 ss 65536 (bsV s 65536)) (hn : n ≤ 140737488355328) (h0 : 0 < size) (h8 : size ≤ 8) :
  CallsR prog 37 #[ptr b 0, U64 addr, IN size, .bool signs] w (fun v w' => LoadR w d s n addr size signs v w' ∧ Ext w w') := by
 have hat := at_spec bq sd ss n (bsV d n) (bsV s 65536) addr size w hB hd hs hn h0 h8
 refine (callsIn_wide (n := 5)).1 ?_
 refine callsIn_of_wp_marks func37 G trivial ?_ G
 simp only [Tryz.ntmps37, List.size_toArray, List.length_cons, List.length_nil, Nat.reduceAdd, Nat.reduceSub, Array.replicate_succ, Array.replicate_zero, List.push_toArray, List.append_toArray, List.nil_append, List.cons_append]
 gi_wp2_with (refine ⟨trivial, ?_⟩; gi_at_call 72; refine (callsIn_wide.2 hat).mono ?_; rintro e w' ⟨v, rfl, (⟨hw, rfl⟩ | ⟨i, g, c, c', hi, hw, hg, rfl, hle⟩), hx⟩)
 ·gi_wp2
  refine ⟨_, results_tmp2 G _ _ _, _, G, ?_, hx.trans (Mod.ext (alloc_ext w' _))⟩
  unfold LoadR; rw [hw]
  exact ⟨w'.heap.size, G, alloc_blk w' _ _, hx.size⟩
 ·gi_wp2_with (refine ⟨trivial, ?_⟩; gi_at_call 73; refine (bytes_in Fence.wide _ trivial rfl _ _ _ _).mono ?_; rintro e w1 ⟨rfl, rfl⟩)
  obtain ⟨W0, hW0⟩ : ∃ W0, (w'.alloc (.cells #[.int .u64 0] 39)).alloc (.cells #[.slice (some ⟨g, addr.toNat - (aB i).toNat, none⟩) size c'] 45) = W0 := ⟨_, rfl⟩
  have hsz : W0.heap.size = w'.heap.size + 2 := by rw [← hW0]; simp
  have hx2 : Below w'.heap.size w' W0 := by rw [← hW0]; exact ((Below.refl _ w').alloc (Nat.le_refl _) _).alloc (by simp) _
  have hbs : W0.cell? ⟨w'.heap.size + 1, 0, none⟩ = some (.slice (some ⟨g, addr.toNat - (aB i).toNat, none⟩) size c') := by
   rw [← hW0]; have := (alloc_blk (w'.alloc (.cells #[.int .u64 0] 39)) #[.slice (some ⟨g, addr.toNat - (aB i).toNat, none⟩) size c'] 45).cell (j := 0) rfl; simpa using this
  have hbx : Blk W0 w'.heap.size #[.int .u64 0] 39 := by
   rw [← hW0]; exact (alloc_blk w' #[.int .u64 0] 39).ext (alloc_ext _ _)
  obtain ⟨gd, hz⟩ : ∃ z : Nat → BitVec 8, z = fun j => (if decide (i = 0) then d else s) (addr.toNat - (aB i).toNat + j) := ⟨_, rfl⟩
  have hxX : Ext w W0 := hx.trans (ext_of_below hx2)
  have hg0 : g < w.heap.size ∧ ∀ j, j < size → W0.cell? ⟨g, addr.toNat - (aB i).toNat + j, none⟩ = some (U8 (gd j)) := by
   have ho := area_own hd hs i
   obtain ⟨g', c'', hg', _, hcc⟩ := ho.at (by omega)
   rw [hg] at hg'; cases hg'
   have hcell : ∀ j, j < aN n i → w.cell? ⟨g, j, none⟩ = some (U8 ((if decide (i = 0) then d else s) j)) := fun j hj => by
    have := hcc j (U8 ((if decide (i = 0) then d else s) j)) (by
     unfold aX aN at *
     by_cases e : i = 0
     ·simp only [e, if_true, decide_true] at hj ⊢; exact bsV_get d hj
     ·simp only [e, if_false, decide_false] at hj ⊢; exact bsV_get s hj)
    rwa [Nat.zero_add] at this
   refine ⟨World.block_lt_of_cell? w _ (hcell (addr.toNat - (aB i).toNat) (by omega)), fun j hj => ?_⟩
   rw [hz]; exact hxX.cell (hcell _ (by omega)) (fun h => h)
  obtain ⟨hg1, hg2⟩ := hg0
  have hg3 := hx.size
  rw [hW0]
  have hval : valB (backB gd size size) = loadB (if decide (i = 0) then d else s) (addr.toNat - (aB i).toNat) size := by rw [hz]; exact valB_back _ _ _ _
  have hlT : ∀ W1, LoadR w d s n addr size true (.tuple #[U64 (signW (valB (backB gd size size)) (8 * size)), .nilIface]) W1 := fun W1 => by unfold LoadR; rw [hw, hval]; rfl
  have hlF : ∀ W1, LoadR w d s n addr size false (.tuple #[U64 (valB (backB gd size size)), .nilIface]) W1 := fun W1 => by unfold LoadR; rw [hw, hval]; rfl
  clear hz hW0 hval hw hxX
  refine wpIn_rangeFunc_ownF G (by omega) (gf := 97) (lb := #[.pointer (some ⟨w'.heap.size + 1, 0, none⟩)]) G trivial (enters_of func97 (by kernel_rfl) G)
   (bytes_stops Fence.wide _ trivial rfl (by omega) (w'.heap.size + 1) g (addr.toNat - (aB i).toNat) size c' gd (by omega) W0 (by omega) (by omega) (Kp := KeepX w'.heap.size (w'.heap.size + 2)) (KeepX.refl _ _) (fun h k => h.trans k) (fun h hc => h.cell (by omega) (by omega) hc) (fun h hc => h.cell (by omega) (by omega) hc) hbs hg2)
   (fun h k => h.trans k) (KeepX.put (by omega)) (Below.refl _ _) (fun _ => rfl)
   (fun pre W => (W.cell? ⟨w'.heap.size, 0, none⟩ = some (U64 (valB pre)) ∧ W.frozen? ⟨w'.heap.size, 0, none⟩ = false) ∧ Below w'.heap.size w' W)
   (fun _ _ _ => False)
   (OwnFrom.and (Own.from (fun s A B row hs hg hr => ⟨cell_kept hs.1 hg hr, (frozen_kept hs.1 hg hr).trans hs.2⟩) _) (ownFrom_below (Nat.le_refl _) (by omega)))
   (fun _ _ _ _ _ hs _ _ => hs)
   ⟨⟨hbx.cell rfl, hbx.frozen 0⟩, hx2⟩
   (fun x => { tmps := #[ptr b 0, U64 addr, IN size, .bool signs, undef, undef, undef, undef, .int .u64 0, .nilIface, .slice (some ⟨g, addr.toNat - (aB i).toNat, none⟩) size c', .pointer (some ⟨w'.heap.size, 0, none⟩), undef, U8 x.2, ptr b 0, .pointer (some ⟨b, 0, none⟩), .pointer (some ⟨b, 0, none⟩), .slice (some ⟨bq, 0, none⟩) 2 2, U64 addr, IN size, .slice (some ⟨g, addr.toNat - (aB i).toNat, none⟩) size c', .slice (some ⟨g, addr.toNat - (aB i).toNat, none⟩) size c', .bool false, undef, undef, undef, .slice (some ⟨g, addr.toNat - (aB i).toNat, none⟩) size c', .func (.func 97) #[] #[.pointer (some ⟨w'.heap.size + 1, 0, none⟩)], .int .i64 x.1, U8 x.2, undef, undef, undef, undef, undef, undef, undef, undef, undef, undef, undef], defers := [] }) ?assign ?body ?done ?stop
  case assign =>
   intro l x W K hK
   gi_wp2
   exact hK
  case body =>
   rintro l pre x W ⟨⟨hc, hf⟩, hB⟩ _
   gi_wp2
   exact ⟨KeepsOthers.setCell _ _ _, KeepX.set _ _ _ _, ⟨by rw [valB_snoc, ← step8]; exact World.cell?_setCell_same' _ _ _ (by rw [hc]; rfl), by rw [World.frozen?_setCell]; exact hf⟩, hB.setCell (p := ⟨w'.heap.size, 0, none⟩) (Nat.le_refl _) _⟩
  case done =>
   rintro D ys W hD rfl ⟨⟨hc, hf⟩, hB⟩ hK
   have hDl : D < W.heap.size := (Array.getElem?_eq_some_iff.1 hK).1
   have hs8 : 8 * size ≤ 64 := by omega
   gi_wp2_with (refine ⟨trivial, ?_⟩; gi_at_call 74; rw [show (8 * (size : Int)) = ((8 * size : Nat) : Int) by omega]; refine (callsIn_wide.2 (N.sign_spec _ _ _ hs8)).mono ?_; rintro e w2 ⟨v, rfl, rfl, hx3⟩; have hc2 := hx3.cell hc (fun h => h); have hf2 : w2.frozen? ⟨w'.heap.size, 0, none⟩ = false := (World.frozen?_of_block (a := ⟨w'.heap.size, 0, none⟩) (hx3.block w'.heap.size (World.block_lt_of_cell? W _ hc) (fun h => h))).trans hf)
   ·have hk2 : (w2.setCell ⟨w'.heap.size, 0, none⟩ (U64 (signW (valB (backB gd size size)) (8 * size)))).heap[D]? = some (Obj.deferred (some [])) :=
     (Below.heap_setCell w2 ⟨w'.heap.size, 0, none⟩ _ D (by show D ≠ w'.heap.size; omega)).trans ((hx3.block D hDl (fun h => h)).trans hK)
    refine ⟨by simp, .inl ⟨_, _, rfl, run_takeDeferred hk2, ?_⟩⟩
    refine ⟨_, results_tmp2 G _ _ _, _, G, ?_, hx.trans (ext_of_below (((hB.trans (hx3.below.mono hB.size)).setCell (p := ⟨w'.heap.size, 0, none⟩) (Nat.le_refl _) _).trans (belowK_b (w := w') (Nat.le_refl _) _ D _ _ (by omega) hk2 G G)))⟩
    obtain rfl : signs = true := by assumption
    exact hlT _
   ·refine ⟨by simp, .inl ⟨_, _, rfl, run_takeDeferred hK, ?_⟩⟩
    refine ⟨_, results_tmp2 G _ _ _, _, G, ?_, hx.trans (ext_of_below (hB.trans (belowK_b (w := w') (Nat.le_refl _) W D _ _ (by omega) hK G G)))⟩
    obtain rfl : signs = false := by assumption
    exact hlF _
  case stop =>
   rintro D c pre W _ _ h _
   exact h.elim
end Go.Proofs.S
end
section
set_option linter.unusedSimpArgs false
set_option linter.unusedVariables false
namespace Go.Proofs.S
open Go Go.Ux Go.Ux.Mach Go.Proofs
open Tryz
open Go.Proofs.M (instV Glob)
open Go.Proofs.N (doM loadsM do_spec loads_spec)
def doesM (M : MS) (a : RvInst) : MS × Option Bool :=
 let p := M.x a.rs1.toNat
 let q := M.x a.rs2.toNat
 let r := doM a.op.toNat a.imm M.pc p q
 let z := loadsM a.op.toNat
 if 0 < z.1 then match whereM M.n (p + a.imm) z.1 with
  | none => (M, some true)
  | some (k, off) => (putM M a (loadV M.d M.s k off z.1 z.2) r.2, none)
 else if 18 ≤ a.op.toNat ∧ a.op.toNat ≤ 21 then match whereM M.n (p + a.imm) (2 ^ (a.op.toNat - 18)) with
  | none => (M, some true)
  | some (k, off) => (putM (storeM M k off (2 ^ (a.op.toNat - 18)) q) a r.1 r.2, none)
 else if a.op.toNat = 64 then (if (callsM M).2 == some true then (callsM M).1 else putM (callsM M).1 a r.1 r.2, (callsM M).2)
 else (putM M a r.1 r.2, none)
theorem loadM_spec (T : Nat → Nat) (b : Nat) (M : MS) (addr : BitVec 64) (size : Nat) (signs : Bool) (w : World) (h : MR T w b M) (h0 : 0 < size) (h8 : size ≤ 8) : CallsR prog 37 #[ptr b 0, U64 addr, IN size, .bool signs] w (fun v w' => LoadR w M.d M.s M.n addr size signs v w' ∧ Ext w w') := by
 obtain ⟨bq, sd, ss, cv, iv, ev, en, hb, ht⟩ := h
 exact load_spec b bq M.n sd ss M.d M.s addr size signs w (hb.cell (j := 0) G) ht.mem ht.data ht.stk ht.n_le h0 h8
theorem LoadR.no {w w' : World} {d s : Nat → BitVec 8} {n : Nat} {addr : BitVec 64} {size : Nat} {signs : Bool} {v : Value} (h : LoadR w d s n addr size signs v w') (e : whereM n addr size = none) : ∃ e, v = .tuple #[Z8, .iface 144 (ptr e 0)] ∧ Blk w' e #[.bool true] 148 ∧ w.heap.size ≤ e := by
 unfold LoadR at h; rw [e] at h; exact h
theorem LoadR.ok {w w' : World} {d s : Nat → BitVec 8} {n : Nat} {addr : BitVec 64} {size : Nat} {signs : Bool} {v : Value} {k : Bool} {off : Nat} (h : LoadR w d s n addr size signs v w') (e : whereM n addr size = some (k, off)) : v = .tuple #[U64 (loadV d s k off size signs), .nilIface] := by
 unfold LoadR at h; rw [e] at h; exact h
theorem turnE_same {T : Nat → Nat} {w w1 : World} {b : Nat} {M : MS} {v : Value} {o : Option Bool} (hM : MR T w b M) (e : Ext w w1) (hE : EndV w1 v o) (hf : ∀ e, v = .iface 144 (ptr e 0) → w.heap.size ≤ e) : TurnE T w b M w1 o v :=
 ⟨T, hM.ext e, Mod.ext e, fun _ h => .inl h, hE, fun k h => ⟨hf k h, by rcases Nat.eq_zero_or_pos (T k) with h' | h'; exact h'; have := (hM.lt k (by omega)).1; have := hf k h; omega⟩⟩
theorem TurnE.then {T : Nat → Nat} {w w1 w2 : World} {b : Nat} {M' : MS} {v : Value} {o : Option Bool} {T' : Nat → Nat} (h2 : MR T' w2 b M') (m1 : Mod (Fp T) w w1) (m2 : Mod (Fp T') w1 w2) (hs : ∀ k, T' k ≠ 0 → T k ≠ 0 ∨ w.heap.size ≤ k) (hE : EndV w2 v o) (hf : ∀ e, v = .iface 144 (ptr e 0) → w.heap.size ≤ e ∧ T' e = 0) : TurnE T w b M' w2 o v :=
 ⟨T', h2, m1.then m2 fun i hi e => by rcases hs i e with h | h; exact h; omega, hs, hE, hf⟩
theorem does_l0 (T : Nat → Nat) (b : Nat) (M : MS) (a : RvInst) (w : World) (hM : MR T w b M) (hG : Glob w) (hX : HX w) (ho1 : 1 ≤ a.op.toNat) (ho2 : a.op.toNat < 66) (hr1 : a.rs1.toNat < 32) (hr2 : a.rs2.toNat < 32) (hrd : a.rd.toNat < 32) (z : Nat) (sg : Bool) (hz : loadsM a.op.toNat = (z, sg)) (hz0 : 0 < z) (hz8 : z ≤ 8) (hw : whereM M.n (M.x a.rs1.toNat + a.imm) z = none) : CallsR prog 36 #[ptr b 0, .agg #[U8 a.op, U8 a.rd, U8 a.rs1, U8 a.rs2, I64 a.imm]] w (fun v w' => TurnE T w b (doesM M a).1 w' (doesM M a).2 v) := by
 have hM0 := hM
 obtain ⟨bq, sd, ss, cv, iv, ev, en, hb, ht⟩ := hM
 refine Co func36 G G ?_
 refine Sr (WL.box (v := .agg #[U8 a.op, U8 a.rd, U8 a.rs1, U8 a.rs2, I64 a.imm]) G G ?_)
 intro b3 w3 n3
 have E1 : Ext w w3 := n3.ext
 refine Ae .nilIface (Ni (Sq (WC.draw (fun w_ => Ext w3 w_) 16 G mixed ?_)))
 intro wd_1 ed_1
 have R2 : Ext w3 wd_1 := ed_1
 have E3 := Mt E1 ed_1
 refine Tm 0 (ptr b 0) G G R2 (Tp 1 (ptr b3 2) G G (Fa G fo48_2 Ok) R2 (Tk 2 (U8 a.rs1) G G (fun _ hS => Le ((n3.blk.ext hS).cell (j := 2) G) Ok) R2 (Tj 3 (ptr b 0) G G R2 (Tp 4 (ptr b 3) G G (Fa G fo85_3 Ok) R2 (Tp 5 (ptr b (3 + a.rs1.toNat)) G G (WL.indexArr1 (i := a.rs1.toNat) ar68 sz39 G G hr1 G Ok) R2 (Tk 6 (U64 (M.x a.rs1.toNat)) G G (fun _ hS => Lx G (((hb.ext n3.ext).ext hS).cell (machCells_x _ _ _ _ _ _ _ _ hr1)) Ok) R2 (Tm 7 (ptr b 0) G G R2 (Tp 8 (ptr b3 3) G G (Fa G fo48_3 Ok) R2 (Tk 9 (U8 a.rs2) G G (fun _ hS => Le ((n3.blk.ext hS).cell (j := 3) G) Ok) R2 (Tj 10 (ptr b 0) G G R2 (Tp 11 (ptr b 3) G G (Fa G fo85_3 Ok) R2 (Tp 12 (ptr b (3 + a.rs2.toNat)) G G (WL.indexArr1 (i := a.rs2.toNat) ar68 sz39 G G hr2 G Ok) R2 (Tk 13 (U64 (M.x a.rs2.toNat)) G G (fun _ hS => Lx G (((hb.ext n3.ext).ext hS).cell (machCells_x _ _ _ _ _ _ _ _ hr2)) Ok) R2 (Tm 14 (U64 (M.x a.rs1.toNat)) G G R2 (Tm 15 (U64 (M.x a.rs2.toNat)) G G R2 (WA.done (by kernel_rfl) (Sq (WC.draw (fun w_ => Ext wd_1 w_) 13 G mixed ?_))))))))))))))))))
 intro wd_2 ed_2
 have R24 : Ext wd_1 wd_2 := ed_2
 have E25 := Mt E3 ed_2
 refine Tk 0 (.agg #[U8 a.op, U8 a.rd, U8 a.rs1, U8 a.rs2, I64 a.imm]) G G (fun _ hS => Se _ ((n3.blk.ext ed_1).ext hS) Ok) R24 (Tm 1 (ptr b 0) G G R24 (Tj 2 (ptr b 0) G G R24 (Tp 3 (ptr b 35) G G (Fa G fo85_4 Ok) R24 (Tk 4 (U64 M.pc) G G (fun _ hS => Le ((((hb.ext n3.ext).ext ed_1).ext hS).cell (j := 35) G) Ok) R24 (Tm 5 (U64 (M.x a.rs1.toNat)) G G R24 (Tm 6 (U64 (M.x a.rs2.toNat)) G G R24 (WA.one (i := 7) (m' := 255) (by kernel_rfl) G G (Ca (do_spec a.op a.rd a.rs1 a.rs2 a.imm M.pc (M.x a.rs1.toNat) (M.x a.rs2.toNat) _ ho1 ho2) ?_))))))))
 rintro _ wdo ⟨rfl, edo⟩
 have R35 := Mt R24 edo
 have E36 := Mt E25 edo
 refine WL.behind R35 (Tm 8 (.tuple #[U64 (doM a.op.toNat a.imm M.pc (M.x a.rs1.toNat) (M.x a.rs2.toNat)).1, U64 (doM a.op.toNat a.imm M.pc (M.x a.rs1.toNat) (M.x a.rs2.toNat)).2]) G G R35 (Tm 9 (U64 ((doM a.op.toNat a.imm M.pc (M.x a.rs1.toNat) (M.x a.rs2.toNat)).1)) G G R35 (Tm 10 (U64 ((doM a.op.toNat a.imm M.pc (M.x a.rs1.toNat) (M.x a.rs2.toNat)).2)) G G R35 (Tm 11 (U64 ((doM a.op.toNat a.imm M.pc (M.x a.rs1.toNat) (M.x a.rs2.toNat)).1)) G G R35 (Tm 12 (U64 ((doM a.op.toNat a.imm M.pc (M.x a.rs1.toNat) (M.x a.rs2.toNat)).2)) G G R35 (WA.done (by kernel_rfl) (Sr (Ae .nilIface (Ni (Sq (Sr (Fa G fo48_0 ?_))))))))))))
 have B42 := ((n3.blk.ext ed_1).ext ed_2).ext edo
 refine Le (B42.cell (j := 0) G) (Ca (loads_spec a.op _ ho1 ho2) ?_)
 rintro v42 wlo ⟨hv42, elo⟩
 rw [hz] at hv42
 obtain rfl : v42 = .tuple #[IN z, .bool sg] := hv42
 have E43 := Mt E36 elo
 refine Me (.tuple #[IN z, .bool sg]) (Et G G (Et G G (Ae (IN z) (Ae (.bool sg) (Ni (Bk (Sr (Me (IN z) (Bn G G BinR.gtr (Ae (.bool (decide ((0 : Int) < ((z : Nat) : Int)))) (Ni (Ct (congrArg Value.bool (decide_eq_true (by omega))) (Rg (Me (ptr b 0) (Me (U64 (M.x a.rs1.toNat)) (Fa G fo48_4 ?_))))))))))))))))
 have B44 := B42.ext elo
 refine Le (B44.cell (j := 4) G) (Cv G (ConvR.i64u64 y2 y39) (Bn G G BinR.addU64 (Me (IN z) (Me (.bool sg) (Ca (loadM_spec T b M (M.x a.rs1.toNat + a.imm) z sg _ (hM0.ext E43) hz0 hz8) ?_)))))
 rintro v57 wl ⟨hl, el⟩
 obtain ⟨e, rfl, he, hle⟩ := hl.no hw
 have hse := Mod.size E43
 have E46 := Mt E43 el
 refine Me (.tuple #[Z8, .iface 144 (ptr e 0)]) (Et G G (Et G G (Ae Z8 (Ae (.iface 144 (ptr e 0)) (Ni ?_)))))
 have hd : doesM M a = (M, some true) := by unfold doesM; simp only [hz]; rw [if_pos hz0, hw]
 rw [hd]
 have hEe : EndV wl (.iface 144 (ptr e 0)) (some true) := ⟨e, rfl, he⟩
 have t3 : T b3 = 0 := by rcases Nat.eq_zero_or_pos (T b3) with h | h; exact h; have := (ht.lt b3 (by omega)).1; have := n3.num; omega
 have B47 := B44.ext el
 exact tail_trap T b b3 M a 0#64 _ _ (some true) _ _ _ (hM0.ext E46) G G G G G B47 t3 hEe (hG.ext E46) (Mod.cell E46 hX (fun h => h)) G (fun w2 e2 => turnE_same hM0 (Mt E46 e2) (hEe.mod e2 (fun _ _ h => h)) (fun k hk => by cases hk; omega))
theorem does_l1 (T : Nat → Nat) (b : Nat) (M : MS) (a : RvInst) (w : World) (hM : MR T w b M) (hG : Glob w) (hX : HX w) (ho1 : 1 ≤ a.op.toNat) (ho2 : a.op.toNat < 66) (hr1 : a.rs1.toNat < 32) (hr2 : a.rs2.toNat < 32) (hrd : a.rd.toNat < 32) (z : Nat) (sg : Bool) (hz : loadsM a.op.toNat = (z, sg)) (hz0 : 0 < z) (hz8 : z ≤ 8) (k : Bool) (off : Nat) (hw : whereM M.n (M.x a.rs1.toNat + a.imm) z = some (k, off)) : CallsR prog 36 #[ptr b 0, .agg #[U8 a.op, U8 a.rd, U8 a.rs1, U8 a.rs2, I64 a.imm]] w (fun v w' => TurnE T w b (doesM M a).1 w' (doesM M a).2 v) := by
 have hM0 := hM
 obtain ⟨bq, sd, ss, cv, iv, ev, en, hb, ht⟩ := hM
 refine Co func36 G G ?_
 refine Sr (WL.box (v := .agg #[U8 a.op, U8 a.rd, U8 a.rs1, U8 a.rs2, I64 a.imm]) G G ?_)
 intro b3 w3 n3
 have E1 : Ext w w3 := n3.ext
 refine Ae .nilIface (Ni (Sq (WC.draw (fun w_ => Ext w3 w_) 16 G mixed ?_)))
 intro wd_1 ed_1
 have R2 : Ext w3 wd_1 := ed_1
 have E3 := Mt E1 ed_1
 refine Tm 0 (ptr b 0) G G R2 (Tp 1 (ptr b3 2) G G (Fa G fo48_2 Ok) R2 (Tk 2 (U8 a.rs1) G G (fun _ hS => Le ((n3.blk.ext hS).cell (j := 2) G) Ok) R2 (Tj 3 (ptr b 0) G G R2 (Tp 4 (ptr b 3) G G (Fa G fo85_3 Ok) R2 (Tp 5 (ptr b (3 + a.rs1.toNat)) G G (WL.indexArr1 (i := a.rs1.toNat) ar68 sz39 G G hr1 G Ok) R2 (Tk 6 (U64 (M.x a.rs1.toNat)) G G (fun _ hS => Lx G (((hb.ext n3.ext).ext hS).cell (machCells_x _ _ _ _ _ _ _ _ hr1)) Ok) R2 (Tm 7 (ptr b 0) G G R2 (Tp 8 (ptr b3 3) G G (Fa G fo48_3 Ok) R2 (Tk 9 (U8 a.rs2) G G (fun _ hS => Le ((n3.blk.ext hS).cell (j := 3) G) Ok) R2 (Tj 10 (ptr b 0) G G R2 (Tp 11 (ptr b 3) G G (Fa G fo85_3 Ok) R2 (Tp 12 (ptr b (3 + a.rs2.toNat)) G G (WL.indexArr1 (i := a.rs2.toNat) ar68 sz39 G G hr2 G Ok) R2 (Tk 13 (U64 (M.x a.rs2.toNat)) G G (fun _ hS => Lx G (((hb.ext n3.ext).ext hS).cell (machCells_x _ _ _ _ _ _ _ _ hr2)) Ok) R2 (Tm 14 (U64 (M.x a.rs1.toNat)) G G R2 (Tm 15 (U64 (M.x a.rs2.toNat)) G G R2 (WA.done (by kernel_rfl) (Sq (WC.draw (fun w_ => Ext wd_1 w_) 13 G mixed ?_))))))))))))))))))
 intro wd_2 ed_2
 have R24 : Ext wd_1 wd_2 := ed_2
 have E25 := Mt E3 ed_2
 refine Tk 0 (.agg #[U8 a.op, U8 a.rd, U8 a.rs1, U8 a.rs2, I64 a.imm]) G G (fun _ hS => Se _ ((n3.blk.ext ed_1).ext hS) Ok) R24 (Tm 1 (ptr b 0) G G R24 (Tj 2 (ptr b 0) G G R24 (Tp 3 (ptr b 35) G G (Fa G fo85_4 Ok) R24 (Tk 4 (U64 M.pc) G G (fun _ hS => Le ((((hb.ext n3.ext).ext ed_1).ext hS).cell (j := 35) G) Ok) R24 (Tm 5 (U64 (M.x a.rs1.toNat)) G G R24 (Tm 6 (U64 (M.x a.rs2.toNat)) G G R24 (WA.one (i := 7) (m' := 255) (by kernel_rfl) G G (Ca (do_spec a.op a.rd a.rs1 a.rs2 a.imm M.pc (M.x a.rs1.toNat) (M.x a.rs2.toNat) _ ho1 ho2) ?_))))))))
 rintro _ wdo ⟨rfl, edo⟩
 have R35 := Mt R24 edo
 have E36 := Mt E25 edo
 refine WL.behind R35 (Tm 8 (.tuple #[U64 (doM a.op.toNat a.imm M.pc (M.x a.rs1.toNat) (M.x a.rs2.toNat)).1, U64 (doM a.op.toNat a.imm M.pc (M.x a.rs1.toNat) (M.x a.rs2.toNat)).2]) G G R35 (Tm 9 (U64 ((doM a.op.toNat a.imm M.pc (M.x a.rs1.toNat) (M.x a.rs2.toNat)).1)) G G R35 (Tm 10 (U64 ((doM a.op.toNat a.imm M.pc (M.x a.rs1.toNat) (M.x a.rs2.toNat)).2)) G G R35 (Tm 11 (U64 ((doM a.op.toNat a.imm M.pc (M.x a.rs1.toNat) (M.x a.rs2.toNat)).1)) G G R35 (Tm 12 (U64 ((doM a.op.toNat a.imm M.pc (M.x a.rs1.toNat) (M.x a.rs2.toNat)).2)) G G R35 (WA.done (by kernel_rfl) (Sr (Ae .nilIface (Ni (Sq (Sr (Fa G fo48_0 ?_))))))))))))
 have B42 := ((n3.blk.ext ed_1).ext ed_2).ext edo
 refine Le (B42.cell (j := 0) G) (Ca (loads_spec a.op _ ho1 ho2) ?_)
 rintro v42 wlo ⟨hv42, elo⟩
 rw [hz] at hv42
 obtain rfl : v42 = .tuple #[IN z, .bool sg] := hv42
 have E43 := Mt E36 elo
 refine Me (.tuple #[IN z, .bool sg]) (Et G G (Et G G (Ae (IN z) (Ae (.bool sg) (Ni (Bk (Sr (Me (IN z) (Bn G G BinR.gtr (Ae (.bool (decide ((0 : Int) < ((z : Nat) : Int)))) (Ni (Ct (congrArg Value.bool (decide_eq_true (by omega))) (Rg (Me (ptr b 0) (Me (U64 (M.x a.rs1.toNat)) (Fa G fo48_4 ?_))))))))))))))))
 have B44 := B42.ext elo
 refine Le (B44.cell (j := 4) G) (Cv G (ConvR.i64u64 y2 y39) (Bn G G BinR.addU64 (Me (IN z) (Me (.bool sg) (Ca (loadM_spec T b M (M.x a.rs1.toNat + a.imm) z sg _ (hM0.ext E43) hz0 hz8) ?_)))))
 rintro v57 wl ⟨hl, el⟩
 obtain rfl := hl.ok hw
 have E45 := Mt E43 el
 refine Me (.tuple #[U64 (loadV M.d M.s k off z sg), .nilIface]) (Et G G (Et G G (Ae (U64 (loadV M.d M.s k off z sg)) (Ae .nilIface (Ni ?_)))))
 have hd : doesM M a = (putM M a (loadV M.d M.s k off z sg) (doM a.op.toNat a.imm M.pc (M.x a.rs1.toNat) (M.x a.rs2.toNat)).2, none) := by unfold doesM; simp only [hz]; rw [if_pos hz0, hw]
 rw [hd]
 have t3 : T b3 = 0 := by rcases Nat.eq_zero_or_pos (T b3) with h | h; exact h; have := (ht.lt b3 (by omega)).1; have := n3.num; omega
 have B46 := B44.ext el
 exact tail_go T b b3 M a (loadV M.d M.s k off z sg) (doM a.op.toNat a.imm M.pc (M.x a.rs1.toNat) (M.x a.rs2.toNat)).2 .nilIface none _ _ _ (hM0.ext E45) G G G G G B46 t3 G (hG.ext E45) (Mod.cell E45 hX (fun h => h)) G (fun e h => by cases h) ho1 ho2 hrd (fun w2 h2 m2 e2 => TurnE.then h2 (Mod.ext E45) m2 (fun k h => .inl h) e2 (fun e h => by cases h))
theorem does_r (T : Nat → Nat) (b : Nat) (M : MS) (a : RvInst) (w : World) (hM : MR T w b M) (hG : Glob w) (hX : HX w) (ho1 : 1 ≤ a.op.toNat) (ho2 : a.op.toNat < 66) (hr1 : a.rs1.toNat < 32) (hr2 : a.rs2.toNat < 32) (hrd : a.rd.toNat < 32) (hz : loadsM a.op.toNat = (0, false)) (h63 : BitVec.ule 18#8 a.op = true) (h67 : BitVec.ule a.op 21#8 = false) (h84 : (a.op == 64#8) = false) (hR : doesM M a = (putM M a (doM a.op.toNat a.imm M.pc (M.x a.rs1.toNat) (M.x a.rs2.toNat)).1 (doM a.op.toNat a.imm M.pc (M.x a.rs1.toNat) (M.x a.rs2.toNat)).2, none)) : CallsR prog 36 #[ptr b 0, .agg #[U8 a.op, U8 a.rd, U8 a.rs1, U8 a.rs2, I64 a.imm]] w (fun v w' => TurnE T w b (doesM M a).1 w' (doesM M a).2 v) := by
 have hM0 := hM
 obtain ⟨bq, sd, ss, cv, iv, ev, en, hb, ht⟩ := hM
 refine Co func36 G G ?_
 refine Sr (WL.box (v := .agg #[U8 a.op, U8 a.rd, U8 a.rs1, U8 a.rs2, I64 a.imm]) G G ?_)
 intro b3 w3 n3
 have E1 : Ext w w3 := n3.ext
 refine Ae .nilIface (Ni (Sq (WC.draw (fun w_ => Ext w3 w_) 16 G mixed ?_)))
 intro wd_1 ed_1
 have R2 : Ext w3 wd_1 := ed_1
 have E3 := Mt E1 ed_1
 refine Tm 0 (ptr b 0) G G R2 (Tp 1 (ptr b3 2) G G (Fa G fo48_2 Ok) R2 (Tk 2 (U8 a.rs1) G G (fun _ hS => Le ((n3.blk.ext hS).cell (j := 2) G) Ok) R2 (Tj 3 (ptr b 0) G G R2 (Tp 4 (ptr b 3) G G (Fa G fo85_3 Ok) R2 (Tp 5 (ptr b (3 + a.rs1.toNat)) G G (WL.indexArr1 (i := a.rs1.toNat) ar68 sz39 G G hr1 G Ok) R2 (Tk 6 (U64 (M.x a.rs1.toNat)) G G (fun _ hS => Lx G (((hb.ext n3.ext).ext hS).cell (machCells_x _ _ _ _ _ _ _ _ hr1)) Ok) R2 (Tm 7 (ptr b 0) G G R2 (Tp 8 (ptr b3 3) G G (Fa G fo48_3 Ok) R2 (Tk 9 (U8 a.rs2) G G (fun _ hS => Le ((n3.blk.ext hS).cell (j := 3) G) Ok) R2 (Tj 10 (ptr b 0) G G R2 (Tp 11 (ptr b 3) G G (Fa G fo85_3 Ok) R2 (Tp 12 (ptr b (3 + a.rs2.toNat)) G G (WL.indexArr1 (i := a.rs2.toNat) ar68 sz39 G G hr2 G Ok) R2 (Tk 13 (U64 (M.x a.rs2.toNat)) G G (fun _ hS => Lx G (((hb.ext n3.ext).ext hS).cell (machCells_x _ _ _ _ _ _ _ _ hr2)) Ok) R2 (Tm 14 (U64 (M.x a.rs1.toNat)) G G R2 (Tm 15 (U64 (M.x a.rs2.toNat)) G G R2 (WA.done (by kernel_rfl) (Sq (WC.draw (fun w_ => Ext wd_1 w_) 13 G mixed ?_))))))))))))))))))
 intro wd_2 ed_2
 have R24 : Ext wd_1 wd_2 := ed_2
 have E25 := Mt E3 ed_2
 refine Tk 0 (.agg #[U8 a.op, U8 a.rd, U8 a.rs1, U8 a.rs2, I64 a.imm]) G G (fun _ hS => Se _ ((n3.blk.ext ed_1).ext hS) Ok) R24 (Tm 1 (ptr b 0) G G R24 (Tj 2 (ptr b 0) G G R24 (Tp 3 (ptr b 35) G G (Fa G fo85_4 Ok) R24 (Tk 4 (U64 M.pc) G G (fun _ hS => Le ((((hb.ext n3.ext).ext ed_1).ext hS).cell (j := 35) G) Ok) R24 (Tm 5 (U64 (M.x a.rs1.toNat)) G G R24 (Tm 6 (U64 (M.x a.rs2.toNat)) G G R24 (WA.one (i := 7) (m' := 255) (by kernel_rfl) G G (Ca (do_spec a.op a.rd a.rs1 a.rs2 a.imm M.pc (M.x a.rs1.toNat) (M.x a.rs2.toNat) _ ho1 ho2) ?_))))))))
 rintro _ wdo ⟨rfl, edo⟩
 have R35 := Mt R24 edo
 have E36 := Mt E25 edo
 refine WL.behind R35 (Tm 8 (.tuple #[U64 (doM a.op.toNat a.imm M.pc (M.x a.rs1.toNat) (M.x a.rs2.toNat)).1, U64 (doM a.op.toNat a.imm M.pc (M.x a.rs1.toNat) (M.x a.rs2.toNat)).2]) G G R35 (Tm 9 (U64 ((doM a.op.toNat a.imm M.pc (M.x a.rs1.toNat) (M.x a.rs2.toNat)).1)) G G R35 (Tm 10 (U64 ((doM a.op.toNat a.imm M.pc (M.x a.rs1.toNat) (M.x a.rs2.toNat)).2)) G G R35 (Tm 11 (U64 ((doM a.op.toNat a.imm M.pc (M.x a.rs1.toNat) (M.x a.rs2.toNat)).1)) G G R35 (Tm 12 (U64 ((doM a.op.toNat a.imm M.pc (M.x a.rs1.toNat) (M.x a.rs2.toNat)).2)) G G R35 (WA.done (by kernel_rfl) (Sr (Ae .nilIface (Ni (Sq (Sr (Fa G fo48_0 ?_))))))))))))
 have B42 := ((n3.blk.ext ed_1).ext ed_2).ext edo
 refine Le (B42.cell (j := 0) G) (Ca (loads_spec a.op _ ho1 ho2) ?_)
 rintro v42 wlo ⟨hv42, elo⟩
 rw [hz] at hv42
 obtain rfl : v42 = .tuple #[IN 0, .bool false] := hv42
 have E43 := Mt E36 elo
 refine Me (.tuple #[IN 0, .bool false]) (Et G G (Et G G (Ae (IN 0) (Ae (.bool false) (Ni (Bk (Sr (Me (IN 0) (Bn G G BinR.gtr (Ae (.bool (decide ((0 : Int) < ((0 : Nat) : Int)))) (Ni (Cf (congrArg Value.bool (decide_eq_false (by omega))) (Sr (Fa G fo48_0 ?_))))))))))))))
 have B44 := B42.ext elo
 refine Le (B44.cell (j := 0) G) (Bt (vy := U8 18#8) G G BinR.geqU8 h63 (Me (.bool true) (Gr (Fa G fo48_0 (Gr (Le (B44.cell (j := 0) G) (Gr (Bf (vy := U8 21#8) G G BinR.leqU8 h67 (Pt G (Ae (.bool false) (Ni (Cf G (Sr (Fa G fo48_0 (Le (B44.cell (j := 0) G) (Bf (vy := U8 64#8) G G BinR.eqlU8 h84 (Ae (.bool false) (Ni (Cf G (WC.skip ?_))))))))))))))))))))
 rw [hR]
 have t3 : T b3 = 0 := by rcases Nat.eq_zero_or_pos (T b3) with h | h; exact h; have := (ht.lt b3 (by omega)).1; have := n3.num; omega
 exact tail_go T b b3 M a (doM a.op.toNat a.imm M.pc (M.x a.rs1.toNat) (M.x a.rs2.toNat)).1 (doM a.op.toNat a.imm M.pc (M.x a.rs1.toNat) (M.x a.rs2.toNat)).2 .nilIface none _ _ _ (hM0.ext E43) G G G G G B44 t3 G (hG.ext E43) (Mod.cell E43 hX (fun h => h)) G (fun e h => by cases h) ho1 ho2 hrd (fun w2 h2 m2 e2 => TurnE.then h2 (Mod.ext E43) m2 (fun k h => .inl h) e2 (fun e h => by cases h))
theorem does_q (T : Nat → Nat) (b : Nat) (M : MS) (a : RvInst) (w : World) (hM : MR T w b M) (hG : Glob w) (hX : HX w) (ho1 : 1 ≤ a.op.toNat) (ho2 : a.op.toNat < 66) (hr1 : a.rs1.toNat < 32) (hr2 : a.rs2.toNat < 32) (hrd : a.rd.toNat < 32) (hz : loadsM a.op.toNat = (0, false)) (h63 : BitVec.ule 18#8 a.op = false) (h84 : (a.op == 64#8) = false) (hR : doesM M a = (putM M a (doM a.op.toNat a.imm M.pc (M.x a.rs1.toNat) (M.x a.rs2.toNat)).1 (doM a.op.toNat a.imm M.pc (M.x a.rs1.toNat) (M.x a.rs2.toNat)).2, none)) : CallsR prog 36 #[ptr b 0, .agg #[U8 a.op, U8 a.rd, U8 a.rs1, U8 a.rs2, I64 a.imm]] w (fun v w' => TurnE T w b (doesM M a).1 w' (doesM M a).2 v) := by
 have hM0 := hM
 obtain ⟨bq, sd, ss, cv, iv, ev, en, hb, ht⟩ := hM
 refine Co func36 G G ?_
 refine Sr (WL.box (v := .agg #[U8 a.op, U8 a.rd, U8 a.rs1, U8 a.rs2, I64 a.imm]) G G ?_)
 intro b3 w3 n3
 have E1 : Ext w w3 := n3.ext
 refine Ae .nilIface (Ni (Sq (WC.draw (fun w_ => Ext w3 w_) 16 G mixed ?_)))
 intro wd_1 ed_1
 have R2 : Ext w3 wd_1 := ed_1
 have E3 := Mt E1 ed_1
 refine Tm 0 (ptr b 0) G G R2 (Tp 1 (ptr b3 2) G G (Fa G fo48_2 Ok) R2 (Tk 2 (U8 a.rs1) G G (fun _ hS => Le ((n3.blk.ext hS).cell (j := 2) G) Ok) R2 (Tj 3 (ptr b 0) G G R2 (Tp 4 (ptr b 3) G G (Fa G fo85_3 Ok) R2 (Tp 5 (ptr b (3 + a.rs1.toNat)) G G (WL.indexArr1 (i := a.rs1.toNat) ar68 sz39 G G hr1 G Ok) R2 (Tk 6 (U64 (M.x a.rs1.toNat)) G G (fun _ hS => Lx G (((hb.ext n3.ext).ext hS).cell (machCells_x _ _ _ _ _ _ _ _ hr1)) Ok) R2 (Tm 7 (ptr b 0) G G R2 (Tp 8 (ptr b3 3) G G (Fa G fo48_3 Ok) R2 (Tk 9 (U8 a.rs2) G G (fun _ hS => Le ((n3.blk.ext hS).cell (j := 3) G) Ok) R2 (Tj 10 (ptr b 0) G G R2 (Tp 11 (ptr b 3) G G (Fa G fo85_3 Ok) R2 (Tp 12 (ptr b (3 + a.rs2.toNat)) G G (WL.indexArr1 (i := a.rs2.toNat) ar68 sz39 G G hr2 G Ok) R2 (Tk 13 (U64 (M.x a.rs2.toNat)) G G (fun _ hS => Lx G (((hb.ext n3.ext).ext hS).cell (machCells_x _ _ _ _ _ _ _ _ hr2)) Ok) R2 (Tm 14 (U64 (M.x a.rs1.toNat)) G G R2 (Tm 15 (U64 (M.x a.rs2.toNat)) G G R2 (WA.done (by kernel_rfl) (Sq (WC.draw (fun w_ => Ext wd_1 w_) 13 G mixed ?_))))))))))))))))))
 intro wd_2 ed_2
 have R24 : Ext wd_1 wd_2 := ed_2
 have E25 := Mt E3 ed_2
 refine Tk 0 (.agg #[U8 a.op, U8 a.rd, U8 a.rs1, U8 a.rs2, I64 a.imm]) G G (fun _ hS => Se _ ((n3.blk.ext ed_1).ext hS) Ok) R24 (Tm 1 (ptr b 0) G G R24 (Tj 2 (ptr b 0) G G R24 (Tp 3 (ptr b 35) G G (Fa G fo85_4 Ok) R24 (Tk 4 (U64 M.pc) G G (fun _ hS => Le ((((hb.ext n3.ext).ext ed_1).ext hS).cell (j := 35) G) Ok) R24 (Tm 5 (U64 (M.x a.rs1.toNat)) G G R24 (Tm 6 (U64 (M.x a.rs2.toNat)) G G R24 (WA.one (i := 7) (m' := 255) (by kernel_rfl) G G (Ca (do_spec a.op a.rd a.rs1 a.rs2 a.imm M.pc (M.x a.rs1.toNat) (M.x a.rs2.toNat) _ ho1 ho2) ?_))))))))
 rintro _ wdo ⟨rfl, edo⟩
 have R35 := Mt R24 edo
 have E36 := Mt E25 edo
 refine WL.behind R35 (Tm 8 (.tuple #[U64 (doM a.op.toNat a.imm M.pc (M.x a.rs1.toNat) (M.x a.rs2.toNat)).1, U64 (doM a.op.toNat a.imm M.pc (M.x a.rs1.toNat) (M.x a.rs2.toNat)).2]) G G R35 (Tm 9 (U64 ((doM a.op.toNat a.imm M.pc (M.x a.rs1.toNat) (M.x a.rs2.toNat)).1)) G G R35 (Tm 10 (U64 ((doM a.op.toNat a.imm M.pc (M.x a.rs1.toNat) (M.x a.rs2.toNat)).2)) G G R35 (Tm 11 (U64 ((doM a.op.toNat a.imm M.pc (M.x a.rs1.toNat) (M.x a.rs2.toNat)).1)) G G R35 (Tm 12 (U64 ((doM a.op.toNat a.imm M.pc (M.x a.rs1.toNat) (M.x a.rs2.toNat)).2)) G G R35 (WA.done (by kernel_rfl) (Sr (Ae .nilIface (Ni (Sq (Sr (Fa G fo48_0 ?_))))))))))))
 have B42 := ((n3.blk.ext ed_1).ext ed_2).ext edo
 refine Le (B42.cell (j := 0) G) (Ca (loads_spec a.op _ ho1 ho2) ?_)
 rintro v42 wlo ⟨hv42, elo⟩
 rw [hz] at hv42
 obtain rfl : v42 = .tuple #[IN 0, .bool false] := hv42
 have E43 := Mt E36 elo
 refine Me (.tuple #[IN 0, .bool false]) (Et G G (Et G G (Ae (IN 0) (Ae (.bool false) (Ni (Bk (Sr (Me (IN 0) (Bn G G BinR.gtr (Ae (.bool (decide ((0 : Int) < ((0 : Nat) : Int)))) (Ni (Cf (congrArg Value.bool (decide_eq_false (by omega))) (Sr (Fa G fo48_0 ?_))))))))))))))
 have B44 := B42.ext elo
 refine Le (B44.cell (j := 0) G) (Bf (vy := U8 18#8) G G BinR.geqU8 h63 (Me (.bool false) (Gx (Gx (Gx (Pf G (Ae (.bool false) (Ni (Cf G (Sr (Fa G fo48_0 (Le (B44.cell (j := 0) G) (Bf (vy := U8 64#8) G G BinR.eqlU8 h84 (Ae (.bool false) (Ni (Cf G (WC.skip ?_)))))))))))))))))
 rw [hR]
 have t3 : T b3 = 0 := by rcases Nat.eq_zero_or_pos (T b3) with h | h; exact h; have := (ht.lt b3 (by omega)).1; have := n3.num; omega
 exact tail_go T b b3 M a (doM a.op.toNat a.imm M.pc (M.x a.rs1.toNat) (M.x a.rs2.toNat)).1 (doM a.op.toNat a.imm M.pc (M.x a.rs1.toNat) (M.x a.rs2.toNat)).2 .nilIface none _ _ _ (hM0.ext E43) G G G G G B44 t3 G (hG.ext E43) (Mod.cell E43 hX (fun h => h)) G (fun e h => by cases h) ho1 ho2 hrd (fun w2 h2 m2 e2 => TurnE.then h2 (Mod.ext E43) m2 (fun k h => .inl h) e2 (fun e h => by cases h))
end Go.Proofs.S
end
section
set_option linter.unusedSimpArgs false
set_option linter.unusedVariables false
namespace Go.Proofs.S
open Go Go.Ux Go.Ux.Mach Go.Proofs
open Tryz
open Go.Proofs.M (instV Glob)
open Go.Proofs.N (doM loadsM do_spec loads_spec)
theorem glob_turn {T : Nat → Nat} {w w' : World} (h : Glob w) (m : Mod (Fp T) w w') (h6 : ∀ k, T k ≠ 0 → 6 ≤ k) : Glob w' := by
 have av : ∀ k, k < 6 → ¬ Fp T k := fun k hk e => by have := h6 k e; omega
 exact ⟨h.rd.mod m (av 0 (by omega)), h.rs1.mod m (av 1 (by omega)), h.rs2.mod m (av 2 (by omega)), h.f3.mod m (av 4 (by omega)), h.f7.mod m (av 5 (by omega))⟩
theorem zero_of {T : Nat → Nat} {T1 : Nat → Nat} {w : World} {b : Nat} (hs : ∀ k, T1 k ≠ 0 → T k ≠ 0 ∨ w.heap.size ≤ k) (h : T b = 0) (hl : b < w.heap.size) : T1 b = 0 := by
 rcases Nat.eq_zero_or_pos (T1 b) with h' | h'
 ·exact h'
 ·rcases hs b (by omega) with h2 | h2
  ·exact absurd h h2
  ·omega
theorem BinR.eqv {P : Program} {op : BinOp} {t : TypeId} {a b v v' : Value} (h : BinR P op t a b v) (e : v = v') : BinR P op t a b v' := e ▸ h
theorem does_s_0 (T : Nat → Nat) (b : Nat) (M : MS) (a : RvInst) (w : World) (hM : MR T w b M) (hG : Glob w) (hX : HX w) (ho1 : 1 ≤ a.op.toNat) (ho2 : a.op.toNat < 66) (hr1 : a.rs1.toNat < 32) (hr2 : a.rs2.toNat < 32) (hrd : a.rd.toNat < 32) (hz : loadsM a.op.toNat = (0, false)) (e z : Nat) (h63 : BitVec.ule 18#8 a.op = true) (h67 : BitVec.ule a.op 21#8 = true) (hv : U8 (a.op - 18#8) = .int .u8 ((e : Nat) : Int)) (hz2 : I64 (1#64 <<< e) = IN z) (hz0 : 0 < z) (hz8 : z ≤ 8) (hw : whereM M.n (M.x a.rs1.toNat + a.imm) z = none) (hR : doesM M a = (M, some true)) : CallsR prog 36 #[ptr b 0, .agg #[U8 a.op, U8 a.rd, U8 a.rs1, U8 a.rs2, I64 a.imm]] w (fun v w' => TurnE T w b (doesM M a).1 w' (doesM M a).2 v) := by
 have hM0 := hM
 obtain ⟨bq, sd, ss, cv, iv, ev, en, hb, ht⟩ := hM
 refine Co func36 G G ?_
 refine Sr (WL.box (v := .agg #[U8 a.op, U8 a.rd, U8 a.rs1, U8 a.rs2, I64 a.imm]) G G ?_)
 intro b3 w3 n3
 have E1 : Ext w w3 := n3.ext
 refine Ae .nilIface (Ni (Sq (WC.draw (fun w_ => Ext w3 w_) 16 G mixed ?_)))
 intro wd_1 ed_1
 have R2 : Ext w3 wd_1 := ed_1
 have E3 := Mt E1 ed_1
 refine Tm 0 (ptr b 0) G G R2 (Tp 1 (ptr b3 2) G G (Fa G fo48_2 Ok) R2 (Tk 2 (U8 a.rs1) G G (fun _ hS => Le ((n3.blk.ext hS).cell (j := 2) G) Ok) R2 (Tj 3 (ptr b 0) G G R2 (Tp 4 (ptr b 3) G G (Fa G fo85_3 Ok) R2 (Tp 5 (ptr b (3 + a.rs1.toNat)) G G (WL.indexArr1 (i := a.rs1.toNat) ar68 sz39 G G hr1 G Ok) R2 (Tk 6 (U64 (M.x a.rs1.toNat)) G G (fun _ hS => Lx G (((hb.ext n3.ext).ext hS).cell (machCells_x _ _ _ _ _ _ _ _ hr1)) Ok) R2 (Tm 7 (ptr b 0) G G R2 (Tp 8 (ptr b3 3) G G (Fa G fo48_3 Ok) R2 (Tk 9 (U8 a.rs2) G G (fun _ hS => Le ((n3.blk.ext hS).cell (j := 3) G) Ok) R2 (Tj 10 (ptr b 0) G G R2 (Tp 11 (ptr b 3) G G (Fa G fo85_3 Ok) R2 (Tp 12 (ptr b (3 + a.rs2.toNat)) G G (WL.indexArr1 (i := a.rs2.toNat) ar68 sz39 G G hr2 G Ok) R2 (Tk 13 (U64 (M.x a.rs2.toNat)) G G (fun _ hS => Lx G (((hb.ext n3.ext).ext hS).cell (machCells_x _ _ _ _ _ _ _ _ hr2)) Ok) R2 (Tm 14 (U64 (M.x a.rs1.toNat)) G G R2 (Tm 15 (U64 (M.x a.rs2.toNat)) G G R2 (WA.done (by kernel_rfl) (Sq (WC.draw (fun w_ => Ext wd_1 w_) 13 G mixed ?_))))))))))))))))))
 intro wd_2 ed_2
 have R24 : Ext wd_1 wd_2 := ed_2
 have E25 := Mt E3 ed_2
 refine Tk 0 (.agg #[U8 a.op, U8 a.rd, U8 a.rs1, U8 a.rs2, I64 a.imm]) G G (fun _ hS => Se _ ((n3.blk.ext ed_1).ext hS) Ok) R24 (Tm 1 (ptr b 0) G G R24 (Tj 2 (ptr b 0) G G R24 (Tp 3 (ptr b 35) G G (Fa G fo85_4 Ok) R24 (Tk 4 (U64 M.pc) G G (fun _ hS => Le ((((hb.ext n3.ext).ext ed_1).ext hS).cell (j := 35) G) Ok) R24 (Tm 5 (U64 (M.x a.rs1.toNat)) G G R24 (Tm 6 (U64 (M.x a.rs2.toNat)) G G R24 (WA.one (i := 7) (m' := 255) (by kernel_rfl) G G (Ca (do_spec a.op a.rd a.rs1 a.rs2 a.imm M.pc (M.x a.rs1.toNat) (M.x a.rs2.toNat) _ ho1 ho2) ?_))))))))
 rintro _ wdo ⟨rfl, edo⟩
 have R35 := Mt R24 edo
 have E36 := Mt E25 edo
 refine WL.behind R35 (Tm 8 (.tuple #[U64 (doM a.op.toNat a.imm M.pc (M.x a.rs1.toNat) (M.x a.rs2.toNat)).1, U64 (doM a.op.toNat a.imm M.pc (M.x a.rs1.toNat) (M.x a.rs2.toNat)).2]) G G R35 (Tm 9 (U64 ((doM a.op.toNat a.imm M.pc (M.x a.rs1.toNat) (M.x a.rs2.toNat)).1)) G G R35 (Tm 10 (U64 ((doM a.op.toNat a.imm M.pc (M.x a.rs1.toNat) (M.x a.rs2.toNat)).2)) G G R35 (Tm 11 (U64 ((doM a.op.toNat a.imm M.pc (M.x a.rs1.toNat) (M.x a.rs2.toNat)).1)) G G R35 (Tm 12 (U64 ((doM a.op.toNat a.imm M.pc (M.x a.rs1.toNat) (M.x a.rs2.toNat)).2)) G G R35 (WA.done (by kernel_rfl) (Sr (Ae .nilIface (Ni (Sq (Sr (Fa G fo48_0 ?_))))))))))))
 have B42 := ((n3.blk.ext ed_1).ext ed_2).ext edo
 refine Le (B42.cell (j := 0) G) (Ca (loads_spec a.op _ ho1 ho2) ?_)
 rintro v42 wlo ⟨hv42, elo⟩
 rw [hz] at hv42
 obtain rfl : v42 = .tuple #[IN 0, .bool false] := hv42
 have E43 := Mt E36 elo
 refine Me (.tuple #[IN 0, .bool false]) (Et G G (Et G G (Ae (IN 0) (Ae (.bool false) (Ni (Bk (Sr (Me (IN 0) (Bn G G BinR.gtr (Ae (.bool (decide ((0 : Int) < ((0 : Nat) : Int)))) (Ni (Cf (congrArg Value.bool (decide_eq_false (by omega))) (Sr (Fa G fo48_0 ?_))))))))))))))
 have B44 := B42.ext elo
 refine Le (B44.cell (j := 0) G) (Bt (vy := U8 18#8) G G BinR.geqU8 h63 (Me (.bool true) (Gr (Fa G fo48_0 (Gr (Le (B44.cell (j := 0) G) (Gr (Bt (vy := U8 21#8) G G BinR.leqU8 h67 (Pt G (Ae (.bool true) (Ni (Ct G (Rg (Me (ptr b 0) (Me (U64 (M.x a.rs1.toNat)) (Fa G fo48_4 (Le (B44.cell (j := 4) G) (Cv G (ConvR.i64u64 y2 y39) (Bn G G BinR.addU64 (Fa G fo48_0 (Le (B44.cell (j := 0) G) (Bn (vy := U8 18#8) G G BinR.subU8 (Bn (vx := I64 1#64) (vy := .int .u8 ((e : Nat) : Int)) (v := IN z) G hv (BinR.eqv BinR.shl64 hz2) ?_)))))))))))))))))))))))
 refine Me (U64 (M.x a.rs2.toNat)) ?_
 have t3 : T b3 = 0 := by rcases Nat.eq_zero_or_pos (T b3) with h | h; exact h; have := (ht.lt b3 (by omega)).1; have := n3.num; omega
 refine Ca (store_no T b M (M.x a.rs1.toNat + a.imm) (M.x a.rs2.toNat) z _ (hM0.ext E43) hz0 hz8 hw) ?_
 rintro _ wl ⟨⟨e1, rfl, he, hle⟩, el⟩
 have hse := Mod.size E43
 have E45 := Mt E43 el
 refine Ae (.iface 144 (ptr e1 0)) (Ni ?_)
 rw [hR]
 have hEe : EndV wl (.iface 144 (ptr e1 0)) (some true) := ⟨e1, rfl, he⟩
 have B46 := B44.ext el
 exact tail_trap T b b3 M a (doM a.op.toNat a.imm M.pc (M.x a.rs1.toNat) (M.x a.rs2.toNat)).1 _ _ (some true) _ _ _ (hM0.ext E45) G G G G G B46 t3 hEe (hG.ext E45) (Mod.cell E45 hX (fun h => h)) G (fun w2 e2 => turnE_same hM0 (Mt E45 e2) (hEe.mod e2 (fun _ _ h => h)) (fun k hk => by cases hk; omega))
theorem does_s_1 (T : Nat → Nat) (b : Nat) (M : MS) (a : RvInst) (w : World) (hM : MR T w b M) (hG : Glob w) (hX : HX w) (ho1 : 1 ≤ a.op.toNat) (ho2 : a.op.toNat < 66) (hr1 : a.rs1.toNat < 32) (hr2 : a.rs2.toNat < 32) (hrd : a.rd.toNat < 32) (hz : loadsM a.op.toNat = (0, false)) (e z : Nat) (h63 : BitVec.ule 18#8 a.op = true) (h67 : BitVec.ule a.op 21#8 = true) (hv : U8 (a.op - 18#8) = .int .u8 ((e : Nat) : Int)) (hz2 : I64 (1#64 <<< e) = IN z) (hz0 : 0 < z) (hz8 : z ≤ 8) (k : Bool) (off : Nat) (hw : whereM M.n (M.x a.rs1.toNat + a.imm) z = some (k, off)) (hR : doesM M a = (putM (storeM M k off z (M.x a.rs2.toNat)) a (doM a.op.toNat a.imm M.pc (M.x a.rs1.toNat) (M.x a.rs2.toNat)).1 (doM a.op.toNat a.imm M.pc (M.x a.rs1.toNat) (M.x a.rs2.toNat)).2, none)) : CallsR prog 36 #[ptr b 0, .agg #[U8 a.op, U8 a.rd, U8 a.rs1, U8 a.rs2, I64 a.imm]] w (fun v w' => TurnE T w b (doesM M a).1 w' (doesM M a).2 v) := by
 have hM0 := hM
 obtain ⟨bq, sd, ss, cv, iv, ev, en, hb, ht⟩ := hM
 refine Co func36 G G ?_
 refine Sr (WL.box (v := .agg #[U8 a.op, U8 a.rd, U8 a.rs1, U8 a.rs2, I64 a.imm]) G G ?_)
 intro b3 w3 n3
 have E1 : Ext w w3 := n3.ext
 refine Ae .nilIface (Ni (Sq (WC.draw (fun w_ => Ext w3 w_) 16 G mixed ?_)))
 intro wd_1 ed_1
 have R2 : Ext w3 wd_1 := ed_1
 have E3 := Mt E1 ed_1
 refine Tm 0 (ptr b 0) G G R2 (Tp 1 (ptr b3 2) G G (Fa G fo48_2 Ok) R2 (Tk 2 (U8 a.rs1) G G (fun _ hS => Le ((n3.blk.ext hS).cell (j := 2) G) Ok) R2 (Tj 3 (ptr b 0) G G R2 (Tp 4 (ptr b 3) G G (Fa G fo85_3 Ok) R2 (Tp 5 (ptr b (3 + a.rs1.toNat)) G G (WL.indexArr1 (i := a.rs1.toNat) ar68 sz39 G G hr1 G Ok) R2 (Tk 6 (U64 (M.x a.rs1.toNat)) G G (fun _ hS => Lx G (((hb.ext n3.ext).ext hS).cell (machCells_x _ _ _ _ _ _ _ _ hr1)) Ok) R2 (Tm 7 (ptr b 0) G G R2 (Tp 8 (ptr b3 3) G G (Fa G fo48_3 Ok) R2 (Tk 9 (U8 a.rs2) G G (fun _ hS => Le ((n3.blk.ext hS).cell (j := 3) G) Ok) R2 (Tj 10 (ptr b 0) G G R2 (Tp 11 (ptr b 3) G G (Fa G fo85_3 Ok) R2 (Tp 12 (ptr b (3 + a.rs2.toNat)) G G (WL.indexArr1 (i := a.rs2.toNat) ar68 sz39 G G hr2 G Ok) R2 (Tk 13 (U64 (M.x a.rs2.toNat)) G G (fun _ hS => Lx G (((hb.ext n3.ext).ext hS).cell (machCells_x _ _ _ _ _ _ _ _ hr2)) Ok) R2 (Tm 14 (U64 (M.x a.rs1.toNat)) G G R2 (Tm 15 (U64 (M.x a.rs2.toNat)) G G R2 (WA.done (by kernel_rfl) (Sq (WC.draw (fun w_ => Ext wd_1 w_) 13 G mixed ?_))))))))))))))))))
 intro wd_2 ed_2
 have R24 : Ext wd_1 wd_2 := ed_2
 have E25 := Mt E3 ed_2
 refine Tk 0 (.agg #[U8 a.op, U8 a.rd, U8 a.rs1, U8 a.rs2, I64 a.imm]) G G (fun _ hS => Se _ ((n3.blk.ext ed_1).ext hS) Ok) R24 (Tm 1 (ptr b 0) G G R24 (Tj 2 (ptr b 0) G G R24 (Tp 3 (ptr b 35) G G (Fa G fo85_4 Ok) R24 (Tk 4 (U64 M.pc) G G (fun _ hS => Le ((((hb.ext n3.ext).ext ed_1).ext hS).cell (j := 35) G) Ok) R24 (Tm 5 (U64 (M.x a.rs1.toNat)) G G R24 (Tm 6 (U64 (M.x a.rs2.toNat)) G G R24 (WA.one (i := 7) (m' := 255) (by kernel_rfl) G G (Ca (do_spec a.op a.rd a.rs1 a.rs2 a.imm M.pc (M.x a.rs1.toNat) (M.x a.rs2.toNat) _ ho1 ho2) ?_))))))))
 rintro _ wdo ⟨rfl, edo⟩
 have R35 := Mt R24 edo
 have E36 := Mt E25 edo
 refine WL.behind R35 (Tm 8 (.tuple #[U64 (doM a.op.toNat a.imm M.pc (M.x a.rs1.toNat) (M.x a.rs2.toNat)).1, U64 (doM a.op.toNat a.imm M.pc (M.x a.rs1.toNat) (M.x a.rs2.toNat)).2]) G G R35 (Tm 9 (U64 ((doM a.op.toNat a.imm M.pc (M.x a.rs1.toNat) (M.x a.rs2.toNat)).1)) G G R35 (Tm 10 (U64 ((doM a.op.toNat a.imm M.pc (M.x a.rs1.toNat) (M.x a.rs2.toNat)).2)) G G R35 (Tm 11 (U64 ((doM a.op.toNat a.imm M.pc (M.x a.rs1.toNat) (M.x a.rs2.toNat)).1)) G G R35 (Tm 12 (U64 ((doM a.op.toNat a.imm M.pc (M.x a.rs1.toNat) (M.x a.rs2.toNat)).2)) G G R35 (WA.done (by kernel_rfl) (Sr (Ae .nilIface (Ni (Sq (Sr (Fa G fo48_0 ?_))))))))))))
 have B42 := ((n3.blk.ext ed_1).ext ed_2).ext edo
 refine Le (B42.cell (j := 0) G) (Ca (loads_spec a.op _ ho1 ho2) ?_)
 rintro v42 wlo ⟨hv42, elo⟩
 rw [hz] at hv42
 obtain rfl : v42 = .tuple #[IN 0, .bool false] := hv42
 have E43 := Mt E36 elo
 refine Me (.tuple #[IN 0, .bool false]) (Et G G (Et G G (Ae (IN 0) (Ae (.bool false) (Ni (Bk (Sr (Me (IN 0) (Bn G G BinR.gtr (Ae (.bool (decide ((0 : Int) < ((0 : Nat) : Int)))) (Ni (Cf (congrArg Value.bool (decide_eq_false (by omega))) (Sr (Fa G fo48_0 ?_))))))))))))))
 have B44 := B42.ext elo
 refine Le (B44.cell (j := 0) G) (Bt (vy := U8 18#8) G G BinR.geqU8 h63 (Me (.bool true) (Gr (Fa G fo48_0 (Gr (Le (B44.cell (j := 0) G) (Gr (Bt (vy := U8 21#8) G G BinR.leqU8 h67 (Pt G (Ae (.bool true) (Ni (Ct G (Rg (Me (ptr b 0) (Me (U64 (M.x a.rs1.toNat)) (Fa G fo48_4 (Le (B44.cell (j := 4) G) (Cv G (ConvR.i64u64 y2 y39) (Bn G G BinR.addU64 (Fa G fo48_0 (Le (B44.cell (j := 0) G) (Bn (vy := U8 18#8) G G BinR.subU8 (Bn (vx := I64 1#64) (vy := .int .u8 ((e : Nat) : Int)) (v := IN z) G hv (BinR.eqv BinR.shl64 hz2) ?_)))))))))))))))))))))))
 refine Me (U64 (M.x a.rs2.toNat)) ?_
 have t3 : T b3 = 0 := by rcases Nat.eq_zero_or_pos (T b3) with h | h; exact h; have := (ht.lt b3 (by omega)).1; have := n3.num; omega
 refine Ca (store_ok T b M (M.x a.rs1.toNat + a.imm) (M.x a.rs2.toNat) z _ (hM0.ext E43) hz0 hz8 k off hw) ?_
 rintro _ wst ⟨rfl, T1, h1, m1, hs1⟩
 have hG1 : Glob wst := glob_turn (hG.ext E43) m1 (fun k h => (hM0.lt k h).2)
 have hX1 := Mod.cell m1 (Mod.cell E43 hX (fun h => h)) (fun h => by have := (hM0.lt 3 h).2; omega)
 have h31 := B44.mod m1 (fun h => h t3)
 have t31 := zero_of hs1 t3 B44.lt
 have mw := (Mod.ext (O := Fp T) E43).trans m1
 have hs2 : ∀ k, T1 k ≠ 0 → T k ≠ 0 ∨ w.heap.size ≤ k := fun k h => by have := Mod.size E43; rcases hs1 k h with h | h; exact .inl h; exact .inr (by omega)
 refine Ae .nilIface (Ni ?_)
 rw [hR]
 exact tail_go T1 b b3 (storeM M k off z (M.x a.rs2.toNat)) a (doM a.op.toNat a.imm M.pc (M.x a.rs1.toNat) (M.x a.rs2.toNat)).1 (doM a.op.toNat a.imm M.pc (M.x a.rs1.toNat) (M.x a.rs2.toNat)).2 .nilIface none _ _ _ h1 G G G G G h31 t31 G hG1 hX1 G (fun e h => (by cases h)) ho1 ho2 hrd (fun w2 h2 m2 e2 => TurnE.then h2 mw m2 hs2 e2 (fun e h => by cases h))
theorem does_e1 (T : Nat → Nat) (b : Nat) (M : MS) (a : RvInst) (w : World) (hM : MR T w b M) (hG : Glob w) (hX : HX w) (ho1 : 1 ≤ a.op.toNat) (ho2 : a.op.toNat < 66) (hr1 : a.rs1.toNat < 32) (hr2 : a.rs2.toNat < 32) (hrd : a.rd.toNat < 32) (hz : loadsM a.op.toNat = (0, false)) (hop : a.op = 64#8) (hev : M.events.length < 8796093022208) (ho : ((callsM M).2 == some true) = true) (hR : doesM M a = ((callsM M).1, (callsM M).2)) : CallsR prog 36 #[ptr b 0, .agg #[U8 a.op, U8 a.rd, U8 a.rs1, U8 a.rs2, I64 a.imm]] w (fun v w' => TurnE T w b (doesM M a).1 w' (doesM M a).2 v) := by
 have hM0 := hM
 obtain ⟨bq, sd, ss, cv, iv, ev, en, hb, ht⟩ := hM
 refine Co func36 G G ?_
 refine Sr (WL.box (v := .agg #[U8 a.op, U8 a.rd, U8 a.rs1, U8 a.rs2, I64 a.imm]) G G ?_)
 intro b3 w3 n3
 have E1 : Ext w w3 := n3.ext
 refine Ae .nilIface (Ni (Sq (WC.draw (fun w_ => Ext w3 w_) 16 G mixed ?_)))
 intro wd_1 ed_1
 have R2 : Ext w3 wd_1 := ed_1
 have E3 := Mt E1 ed_1
 refine Tm 0 (ptr b 0) G G R2 (Tp 1 (ptr b3 2) G G (Fa G fo48_2 Ok) R2 (Tk 2 (U8 a.rs1) G G (fun _ hS => Le ((n3.blk.ext hS).cell (j := 2) G) Ok) R2 (Tj 3 (ptr b 0) G G R2 (Tp 4 (ptr b 3) G G (Fa G fo85_3 Ok) R2 (Tp 5 (ptr b (3 + a.rs1.toNat)) G G (WL.indexArr1 (i := a.rs1.toNat) ar68 sz39 G G hr1 G Ok) R2 (Tk 6 (U64 (M.x a.rs1.toNat)) G G (fun _ hS => Lx G (((hb.ext n3.ext).ext hS).cell (machCells_x _ _ _ _ _ _ _ _ hr1)) Ok) R2 (Tm 7 (ptr b 0) G G R2 (Tp 8 (ptr b3 3) G G (Fa G fo48_3 Ok) R2 (Tk 9 (U8 a.rs2) G G (fun _ hS => Le ((n3.blk.ext hS).cell (j := 3) G) Ok) R2 (Tj 10 (ptr b 0) G G R2 (Tp 11 (ptr b 3) G G (Fa G fo85_3 Ok) R2 (Tp 12 (ptr b (3 + a.rs2.toNat)) G G (WL.indexArr1 (i := a.rs2.toNat) ar68 sz39 G G hr2 G Ok) R2 (Tk 13 (U64 (M.x a.rs2.toNat)) G G (fun _ hS => Lx G (((hb.ext n3.ext).ext hS).cell (machCells_x _ _ _ _ _ _ _ _ hr2)) Ok) R2 (Tm 14 (U64 (M.x a.rs1.toNat)) G G R2 (Tm 15 (U64 (M.x a.rs2.toNat)) G G R2 (WA.done (by kernel_rfl) (Sq (WC.draw (fun w_ => Ext wd_1 w_) 13 G mixed ?_))))))))))))))))))
 intro wd_2 ed_2
 have R24 : Ext wd_1 wd_2 := ed_2
 have E25 := Mt E3 ed_2
 refine Tk 0 (.agg #[U8 a.op, U8 a.rd, U8 a.rs1, U8 a.rs2, I64 a.imm]) G G (fun _ hS => Se _ ((n3.blk.ext ed_1).ext hS) Ok) R24 (Tm 1 (ptr b 0) G G R24 (Tj 2 (ptr b 0) G G R24 (Tp 3 (ptr b 35) G G (Fa G fo85_4 Ok) R24 (Tk 4 (U64 M.pc) G G (fun _ hS => Le ((((hb.ext n3.ext).ext ed_1).ext hS).cell (j := 35) G) Ok) R24 (Tm 5 (U64 (M.x a.rs1.toNat)) G G R24 (Tm 6 (U64 (M.x a.rs2.toNat)) G G R24 (WA.one (i := 7) (m' := 255) (by kernel_rfl) G G (Ca (do_spec a.op a.rd a.rs1 a.rs2 a.imm M.pc (M.x a.rs1.toNat) (M.x a.rs2.toNat) _ ho1 ho2) ?_))))))))
 rintro _ wdo ⟨rfl, edo⟩
 have R35 := Mt R24 edo
 have E36 := Mt E25 edo
 refine WL.behind R35 (Tm 8 (.tuple #[U64 (doM a.op.toNat a.imm M.pc (M.x a.rs1.toNat) (M.x a.rs2.toNat)).1, U64 (doM a.op.toNat a.imm M.pc (M.x a.rs1.toNat) (M.x a.rs2.toNat)).2]) G G R35 (Tm 9 (U64 ((doM a.op.toNat a.imm M.pc (M.x a.rs1.toNat) (M.x a.rs2.toNat)).1)) G G R35 (Tm 10 (U64 ((doM a.op.toNat a.imm M.pc (M.x a.rs1.toNat) (M.x a.rs2.toNat)).2)) G G R35 (Tm 11 (U64 ((doM a.op.toNat a.imm M.pc (M.x a.rs1.toNat) (M.x a.rs2.toNat)).1)) G G R35 (Tm 12 (U64 ((doM a.op.toNat a.imm M.pc (M.x a.rs1.toNat) (M.x a.rs2.toNat)).2)) G G R35 (WA.done (by kernel_rfl) (Sr (Ae .nilIface (Ni (Sq (Sr (Fa G fo48_0 ?_))))))))))))
 have B42 := ((n3.blk.ext ed_1).ext ed_2).ext edo
 refine Le (B42.cell (j := 0) G) (Ca (loads_spec a.op _ ho1 ho2) ?_)
 rintro v42 wlo ⟨hv42, elo⟩
 rw [hz] at hv42
 obtain rfl : v42 = .tuple #[IN 0, .bool false] := hv42
 have E43 := Mt E36 elo
 refine Me (.tuple #[IN 0, .bool false]) (Et G G (Et G G (Ae (IN 0) (Ae (.bool false) (Ni (Bk (Sr (Me (IN 0) (Bn G G BinR.gtr (Ae (.bool (decide ((0 : Int) < ((0 : Nat) : Int)))) (Ni (Cf (congrArg Value.bool (decide_eq_false (by omega))) (Sr (Fa G fo48_0 ?_))))))))))))))
 have B44 := B42.ext elo
 refine Le (B44.cell (j := 0) G) (Bt (vy := U8 18#8) G G BinR.geqU8 (by rw [hop]; rfl) (Me (.bool true) (Gr (Fa G fo48_0 (Gr (Le (B44.cell (j := 0) G) (Gr (Bf (vy := U8 21#8) G G BinR.leqU8 (by rw [hop]; rfl) (Pt G (Ae (.bool false) (Ni (Cf G (Sr (Fa G fo48_0 (Le (B44.cell (j := 0) G) (Bt (vy := U8 64#8) G G BinR.eqlU8 (by rw [hop]; rfl) (Ae (.bool true) (Ni (Ct G (Rg (Me (ptr b 0) ?_)))))))))))))))))))))
 have t3 : T b3 = 0 := by rcases Nat.eq_zero_or_pos (T b3) with h | h; exact h; have := (ht.lt b3 (by omega)).1; have := n3.num; omega
 refine Ca (calls_spec T b M _ (hM0.ext E43) hev) ?_
 rintro v86 wst ⟨T1, h1, m1, hs1, hE1, hf1⟩
 have hf2 : ∀ e, v86 = .iface 144 (ptr e 0) → w.heap.size ≤ e ∧ T1 e = 0 := fun e h => by have := Mod.size E43; have := hf1 e h; exact ⟨by omega, this.2⟩
 have hG1 : Glob wst := glob_turn (hG.ext E43) m1 (fun k h => (hM0.lt k h).2)
 have hX1 := Mod.cell m1 (Mod.cell E43 hX (fun h => h)) (fun h => by have := (hM0.lt 3 h).2; omega)
 have h31 := B44.mod m1 (fun h => h t3)
 have t31 := zero_of hs1 t3 B44.lt
 have mw := (Mod.ext (O := Fp T) E43).trans m1
 have hs2 : ∀ k, T1 k ≠ 0 → T k ≠ 0 ∨ w.heap.size ≤ k := fun k h => by have := Mod.size E43; rcases hs1 k h with h | h; exact .inl h; exact .inr (by omega)
 refine Ae v86 (Ni ?_)
 rw [hR]
 exact tail_trap T1 b b3 (callsM M).1 a (doM a.op.toNat a.imm M.pc (M.x a.rs1.toNat) (M.x a.rs2.toNat)).1 _ _ (callsM M).2 _ _ _ h1 G G G G G h31 t31 hE1 hG1 hX1 ho (fun w2 e2 => TurnE.then (h1.ext e2) mw (Mod.ext e2) hs2 (hE1.mod e2 (fun _ _ h => h)) hf2)
theorem does_e0 (T : Nat → Nat) (b : Nat) (M : MS) (a : RvInst) (w : World) (hM : MR T w b M) (hG : Glob w) (hX : HX w) (ho1 : 1 ≤ a.op.toNat) (ho2 : a.op.toNat < 66) (hr1 : a.rs1.toNat < 32) (hr2 : a.rs2.toNat < 32) (hrd : a.rd.toNat < 32) (hz : loadsM a.op.toNat = (0, false)) (hop : a.op = 64#8) (hev : M.events.length < 8796093022208) (ho : ((callsM M).2 == some true) = false) (hR : doesM M a = (putM (callsM M).1 a (doM a.op.toNat a.imm M.pc (M.x a.rs1.toNat) (M.x a.rs2.toNat)).1 (doM a.op.toNat a.imm M.pc (M.x a.rs1.toNat) (M.x a.rs2.toNat)).2, (callsM M).2)) : CallsR prog 36 #[ptr b 0, .agg #[U8 a.op, U8 a.rd, U8 a.rs1, U8 a.rs2, I64 a.imm]] w (fun v w' => TurnE T w b (doesM M a).1 w' (doesM M a).2 v) := by
 have hM0 := hM
 obtain ⟨bq, sd, ss, cv, iv, ev, en, hb, ht⟩ := hM
 refine Co func36 G G ?_
 refine Sr (WL.box (v := .agg #[U8 a.op, U8 a.rd, U8 a.rs1, U8 a.rs2, I64 a.imm]) G G ?_)
 intro b3 w3 n3
 have E1 : Ext w w3 := n3.ext
 refine Ae .nilIface (Ni (Sq (WC.draw (fun w_ => Ext w3 w_) 16 G mixed ?_)))
 intro wd_1 ed_1
 have R2 : Ext w3 wd_1 := ed_1
 have E3 := Mt E1 ed_1
 refine Tm 0 (ptr b 0) G G R2 (Tp 1 (ptr b3 2) G G (Fa G fo48_2 Ok) R2 (Tk 2 (U8 a.rs1) G G (fun _ hS => Le ((n3.blk.ext hS).cell (j := 2) G) Ok) R2 (Tj 3 (ptr b 0) G G R2 (Tp 4 (ptr b 3) G G (Fa G fo85_3 Ok) R2 (Tp 5 (ptr b (3 + a.rs1.toNat)) G G (WL.indexArr1 (i := a.rs1.toNat) ar68 sz39 G G hr1 G Ok) R2 (Tk 6 (U64 (M.x a.rs1.toNat)) G G (fun _ hS => Lx G (((hb.ext n3.ext).ext hS).cell (machCells_x _ _ _ _ _ _ _ _ hr1)) Ok) R2 (Tm 7 (ptr b 0) G G R2 (Tp 8 (ptr b3 3) G G (Fa G fo48_3 Ok) R2 (Tk 9 (U8 a.rs2) G G (fun _ hS => Le ((n3.blk.ext hS).cell (j := 3) G) Ok) R2 (Tj 10 (ptr b 0) G G R2 (Tp 11 (ptr b 3) G G (Fa G fo85_3 Ok) R2 (Tp 12 (ptr b (3 + a.rs2.toNat)) G G (WL.indexArr1 (i := a.rs2.toNat) ar68 sz39 G G hr2 G Ok) R2 (Tk 13 (U64 (M.x a.rs2.toNat)) G G (fun _ hS => Lx G (((hb.ext n3.ext).ext hS).cell (machCells_x _ _ _ _ _ _ _ _ hr2)) Ok) R2 (Tm 14 (U64 (M.x a.rs1.toNat)) G G R2 (Tm 15 (U64 (M.x a.rs2.toNat)) G G R2 (WA.done (by kernel_rfl) (Sq (WC.draw (fun w_ => Ext wd_1 w_) 13 G mixed ?_))))))))))))))))))
 intro wd_2 ed_2
 have R24 : Ext wd_1 wd_2 := ed_2
 have E25 := Mt E3 ed_2
 refine Tk 0 (.agg #[U8 a.op, U8 a.rd, U8 a.rs1, U8 a.rs2, I64 a.imm]) G G (fun _ hS => Se _ ((n3.blk.ext ed_1).ext hS) Ok) R24 (Tm 1 (ptr b 0) G G R24 (Tj 2 (ptr b 0) G G R24 (Tp 3 (ptr b 35) G G (Fa G fo85_4 Ok) R24 (Tk 4 (U64 M.pc) G G (fun _ hS => Le ((((hb.ext n3.ext).ext ed_1).ext hS).cell (j := 35) G) Ok) R24 (Tm 5 (U64 (M.x a.rs1.toNat)) G G R24 (Tm 6 (U64 (M.x a.rs2.toNat)) G G R24 (WA.one (i := 7) (m' := 255) (by kernel_rfl) G G (Ca (do_spec a.op a.rd a.rs1 a.rs2 a.imm M.pc (M.x a.rs1.toNat) (M.x a.rs2.toNat) _ ho1 ho2) ?_))))))))
 rintro _ wdo ⟨rfl, edo⟩
 have R35 := Mt R24 edo
 have E36 := Mt E25 edo
 refine WL.behind R35 (Tm 8 (.tuple #[U64 (doM a.op.toNat a.imm M.pc (M.x a.rs1.toNat) (M.x a.rs2.toNat)).1, U64 (doM a.op.toNat a.imm M.pc (M.x a.rs1.toNat) (M.x a.rs2.toNat)).2]) G G R35 (Tm 9 (U64 ((doM a.op.toNat a.imm M.pc (M.x a.rs1.toNat) (M.x a.rs2.toNat)).1)) G G R35 (Tm 10 (U64 ((doM a.op.toNat a.imm M.pc (M.x a.rs1.toNat) (M.x a.rs2.toNat)).2)) G G R35 (Tm 11 (U64 ((doM a.op.toNat a.imm M.pc (M.x a.rs1.toNat) (M.x a.rs2.toNat)).1)) G G R35 (Tm 12 (U64 ((doM a.op.toNat a.imm M.pc (M.x a.rs1.toNat) (M.x a.rs2.toNat)).2)) G G R35 (WA.done (by kernel_rfl) (Sr (Ae .nilIface (Ni (Sq (Sr (Fa G fo48_0 ?_))))))))))))
 have B42 := ((n3.blk.ext ed_1).ext ed_2).ext edo
 refine Le (B42.cell (j := 0) G) (Ca (loads_spec a.op _ ho1 ho2) ?_)
 rintro v42 wlo ⟨hv42, elo⟩
 rw [hz] at hv42
 obtain rfl : v42 = .tuple #[IN 0, .bool false] := hv42
 have E43 := Mt E36 elo
 refine Me (.tuple #[IN 0, .bool false]) (Et G G (Et G G (Ae (IN 0) (Ae (.bool false) (Ni (Bk (Sr (Me (IN 0) (Bn G G BinR.gtr (Ae (.bool (decide ((0 : Int) < ((0 : Nat) : Int)))) (Ni (Cf (congrArg Value.bool (decide_eq_false (by omega))) (Sr (Fa G fo48_0 ?_))))))))))))))
 have B44 := B42.ext elo
 refine Le (B44.cell (j := 0) G) (Bt (vy := U8 18#8) G G BinR.geqU8 (by rw [hop]; rfl) (Me (.bool true) (Gr (Fa G fo48_0 (Gr (Le (B44.cell (j := 0) G) (Gr (Bf (vy := U8 21#8) G G BinR.leqU8 (by rw [hop]; rfl) (Pt G (Ae (.bool false) (Ni (Cf G (Sr (Fa G fo48_0 (Le (B44.cell (j := 0) G) (Bt (vy := U8 64#8) G G BinR.eqlU8 (by rw [hop]; rfl) (Ae (.bool true) (Ni (Ct G (Rg (Me (ptr b 0) ?_)))))))))))))))))))))
 have t3 : T b3 = 0 := by rcases Nat.eq_zero_or_pos (T b3) with h | h; exact h; have := (ht.lt b3 (by omega)).1; have := n3.num; omega
 refine Ca (calls_spec T b M _ (hM0.ext E43) hev) ?_
 rintro v86 wst ⟨T1, h1, m1, hs1, hE1, hf1⟩
 have hf2 : ∀ e, v86 = .iface 144 (ptr e 0) → w.heap.size ≤ e ∧ T1 e = 0 := fun e h => by have := Mod.size E43; have := hf1 e h; exact ⟨by omega, this.2⟩
 have hG1 : Glob wst := glob_turn (hG.ext E43) m1 (fun k h => (hM0.lt k h).2)
 have hX1 := Mod.cell m1 (Mod.cell E43 hX (fun h => h)) (fun h => by have := (hM0.lt 3 h).2; omega)
 have h31 := B44.mod m1 (fun h => h t3)
 have t31 := zero_of hs1 t3 B44.lt
 have mw := (Mod.ext (O := Fp T) E43).trans m1
 have hs2 : ∀ k, T1 k ≠ 0 → T k ≠ 0 ∨ w.heap.size ≤ k := fun k h => by have := Mod.size E43; rcases hs1 k h with h | h; exact .inl h; exact .inr (by omega)
 refine Ae v86 (Ni ?_)
 rw [hR]
 exact tail_go T1 b b3 ((callsM M).1) a (doM a.op.toNat a.imm M.pc (M.x a.rs1.toNat) (M.x a.rs2.toNat)).1 (doM a.op.toNat a.imm M.pc (M.x a.rs1.toNat) (M.x a.rs2.toNat)).2 v86 (callsM M).2 _ _ _ h1 G G G G G h31 t31 hE1 hG1 hX1 ho (fun e h => ((hf2 e h).2)) ho1 ho2 hrd (fun w2 h2 m2 e2 => TurnE.then h2 mw m2 hs2 e2 (fun e h => hf2 e h))
theorem loadsM_le (n : Nat) : (loadsM n).1 ≤ 8 := by
 unfold loadsM; split <;> decide
theorem loadsM_zero {n : Nat} (h : ¬ 0 < (loadsM n).1) : loadsM n = (0, false) := by
 unfold loadsM at h ⊢; split at h <;> first | rfl | exact absurd (by decide) h
theorem ule_of {x y : BitVec 8} {r : Bool} (h : decide (x.toNat ≤ y.toNat) = r) : BitVec.ule x y = r := h
theorem does_spec (T : Nat → Nat) (b : Nat) (M : MS) (a : RvInst) (w : World) (hM : MR T w b M) (hG : Glob w) (hX : HX w) (ho1 : 1 ≤ a.op.toNat) (ho2 : a.op.toNat < 66) (hr1 : a.rs1.toNat < 32) (hr2 : a.rs2.toNat < 32) (hrd : a.rd.toNat < 32) (hev : M.events.length < 8796093022208) : CallsR prog 36 #[ptr b 0, instV a] w (fun v w' => TurnE T w b (doesM M a).1 w' (doesM M a).2 v) := by
 by_cases hz : 0 < (loadsM a.op.toNat).1
 ·rcases hw : whereM M.n (M.x a.rs1.toNat + a.imm) (loadsM a.op.toNat).1 with _ | ⟨k, off⟩
  ·exact does_l0 T b M a w hM hG hX ho1 ho2 hr1 hr2 hrd _ _ G hz (loadsM_le _) hw
  ·exact does_l1 T b M a w hM hG hX ho1 ho2 hr1 hr2 hrd _ _ G hz (loadsM_le _) k off hw
 have hz0 := loadsM_zero hz
 by_cases hs : 18 ≤ a.op.toNat ∧ a.op.toNat ≤ 21
 ·rcases (by omega : a.op.toNat = 18 ∨ a.op.toNat = 19 ∨ a.op.toNat = 20 ∨ a.op.toNat = 21) with h | h | h | h
  ·have hop : a.op = 18#8 := BitVec.eq_of_toNat_eq h
   rcases hw : whereM M.n (M.x a.rs1.toNat + a.imm) 1 with _ | ⟨k, off⟩
   ·exact does_s_0 T b M a w hM hG hX ho1 ho2 hr1 hr2 hrd hz0 0 1 (by rw [hop]; rfl) (by rw [hop]; rfl) (by rw [hop]; rfl) G (by decide) (by decide) hw (by unfold doesM; simp only; rw [if_neg hz, if_pos hs, h]; show (match whereM _ _ 1 with | none => _ | some (k, off) => _) = _; rw [hw])
   ·exact does_s_1 T b M a w hM hG hX ho1 ho2 hr1 hr2 hrd hz0 0 1 (by rw [hop]; rfl) (by rw [hop]; rfl) (by rw [hop]; rfl) G (by decide) (by decide) k off hw (by unfold doesM; simp only; rw [if_neg hz, if_pos hs, h]; show (match whereM _ _ 1 with | none => _ | some (k, off) => _) = _; rw [hw])
  ·have hop : a.op = 19#8 := BitVec.eq_of_toNat_eq h
   rcases hw : whereM M.n (M.x a.rs1.toNat + a.imm) 2 with _ | ⟨k, off⟩
   ·exact does_s_0 T b M a w hM hG hX ho1 ho2 hr1 hr2 hrd hz0 1 2 (by rw [hop]; rfl) (by rw [hop]; rfl) (by rw [hop]; rfl) G (by decide) (by decide) hw (by unfold doesM; simp only; rw [if_neg hz, if_pos hs, h]; show (match whereM _ _ 2 with | none => _ | some (k, off) => _) = _; rw [hw])
   ·exact does_s_1 T b M a w hM hG hX ho1 ho2 hr1 hr2 hrd hz0 1 2 (by rw [hop]; rfl) (by rw [hop]; rfl) (by rw [hop]; rfl) G (by decide) (by decide) k off hw (by unfold doesM; simp only; rw [if_neg hz, if_pos hs, h]; show (match whereM _ _ 2 with | none => _ | some (k, off) => _) = _; rw [hw])
  ·have hop : a.op = 20#8 := BitVec.eq_of_toNat_eq h
   rcases hw : whereM M.n (M.x a.rs1.toNat + a.imm) 4 with _ | ⟨k, off⟩
   ·exact does_s_0 T b M a w hM hG hX ho1 ho2 hr1 hr2 hrd hz0 2 4 (by rw [hop]; rfl) (by rw [hop]; rfl) (by rw [hop]; rfl) G (by decide) (by decide) hw (by unfold doesM; simp only; rw [if_neg hz, if_pos hs, h]; show (match whereM _ _ 4 with | none => _ | some (k, off) => _) = _; rw [hw])
   ·exact does_s_1 T b M a w hM hG hX ho1 ho2 hr1 hr2 hrd hz0 2 4 (by rw [hop]; rfl) (by rw [hop]; rfl) (by rw [hop]; rfl) G (by decide) (by decide) k off hw (by unfold doesM; simp only; rw [if_neg hz, if_pos hs, h]; show (match whereM _ _ 4 with | none => _ | some (k, off) => _) = _; rw [hw])
  ·have hop : a.op = 21#8 := BitVec.eq_of_toNat_eq h
   rcases hw : whereM M.n (M.x a.rs1.toNat + a.imm) 8 with _ | ⟨k, off⟩
   ·exact does_s_0 T b M a w hM hG hX ho1 ho2 hr1 hr2 hrd hz0 3 8 (by rw [hop]; rfl) (by rw [hop]; rfl) (by rw [hop]; rfl) G (by decide) (by decide) hw (by unfold doesM; simp only; rw [if_neg hz, if_pos hs, h]; show (match whereM _ _ 8 with | none => _ | some (k, off) => _) = _; rw [hw])
   ·exact does_s_1 T b M a w hM hG hX ho1 ho2 hr1 hr2 hrd hz0 3 8 (by rw [hop]; rfl) (by rw [hop]; rfl) (by rw [hop]; rfl) G (by decide) (by decide) k off hw (by unfold doesM; simp only; rw [if_neg hz, if_pos hs, h]; show (match whereM _ _ 8 with | none => _ | some (k, off) => _) = _; rw [hw])
 by_cases he : a.op.toNat = 64
 ·have hop : a.op = 64#8 := BitVec.eq_of_toNat_eq he
  rcases ho : (callsM M).2 == some true with _ | _
  ·exact does_e0 T b M a w hM hG hX ho1 ho2 hr1 hr2 hrd hz0 hop hev ho (by unfold doesM; simp only; rw [if_neg hz, if_neg hs, if_pos he, ho]; rfl)
  ·exact does_e1 T b M a w hM hG hX ho1 ho2 hr1 hr2 hrd hz0 hop hev ho (by unfold doesM; simp only; rw [if_neg hz, if_neg hs, if_pos he, ho]; rfl)
 have h84 : (a.op == 64#8) = false := by rw [beq_eq_false_iff_ne]; intro e; rw [e] at he; exact he rfl
 have hR : doesM M a = (putM M a (doM a.op.toNat a.imm M.pc (M.x a.rs1.toNat) (M.x a.rs2.toNat)).1 (doM a.op.toNat a.imm M.pc (M.x a.rs1.toNat) (M.x a.rs2.toNat)).2, none) := by unfold doesM; simp only; rw [if_neg hz, if_neg hs, if_neg he]
 by_cases h18 : 18 ≤ a.op.toNat
 ·exact does_r T b M a w hM hG hX ho1 ho2 hr1 hr2 hrd hz0 (ule_of (decide_eq_true h18)) (ule_of (decide_eq_false (fun h => hs ⟨h18, h⟩))) h84 hR
 ·exact does_q T b M a w hM hG hX ho1 ho2 hr1 hr2 hrd hz0 (ule_of (decide_eq_false h18)) h84 hR
end Go.Proofs.S
end
section
set_option linter.unusedSimpArgs false
set_option linter.unusedVariables false
namespace Go.Proofs.S
open Go Go.Ux Go.Ux.Mach Go.Proofs
open Tryz
theorem fo85_6 : fieldOff prog 85 6 = some 37 := by kernel_rfl
theorem fo85_7 : fieldOff prog 85 7 = some 38 := by kernel_rfl
theorem sz3 : sizeT prog 3 = some 1 := by kernel_rfl
theorem sz83 : sizeT prog 83 = some 1 := by kernel_rfl
open Go.Proofs.M (instV Glob)
def stepM (M : MS) : MS :=
 match nextM M with
 | none => { M with steps := M.steps + 1#64, fin := some true }
 | some a => { (doesM { M with steps := M.steps + 1#64 } a).1 with fin := (doesM { M with steps := M.steps + 1#64 } a).2 }
def CodeOk (l : List (RvInst × Bool)) : Prop := l.length ≤ 1000000 ∧ ∀ p ∈ l, p.2 = true → 1 ≤ p.1.op.toNat ∧ p.1.op.toNat < 66 ∧ (p.1.rs1).toNat < 32 ∧ (p.1.rs2).toNat < 32 ∧ (p.1.rd).toNat < 32
theorem nextM_ok {M : MS} {a : RvInst} (hc : CodeOk M.code) (h : nextM M = some a) : 1 ≤ a.op.toNat ∧ a.op.toNat < 66 ∧ a.rs1.toNat < 32 ∧ a.rs2.toNat < 32 ∧ a.rd.toNat < 32 := by
 unfold nextM at h
 split at h; · cases h
 split at h; · cases h
 split at h; · cases h
 split at h
 ·rename_i a' he
  cases h
  exact hc.2 _ (List.mem_of_getElem? he) G
 ·cases h
theorem step_nil (w : World) : Cx 18 #[.pointer none] w (IN 1) := by
 refine Co func18 G G ?_
 refine Sr (Ae (IN 0) (Ni (Sq (Bk (Sr (Me (.pointer none) (Bn G G (BinR.eqlPP y28) (Ae (.bool true) (Ni (Ct G (Sr (Ae (IN 1) (Ni (WC.ret ?_))))))))))))))
 exact ⟨_, Ro G G, G, Mod.refl _ _⟩
theorem step_end (T : Nat → Nat) (b : Nat) (M : MS) (w : World) (h : MR T w b M) (t : Bool) (hfin : M.fin = some t) : Cx 18 #[ptr b 0] w (IN 4) := by
 obtain ⟨bq, sd, ss, cv, iv, ev, en, hb, ht⟩ := h
 obtain ⟨e, rfl, he⟩ : ∃ e, en = .iface 144 (ptr e 0) ∧ Blk w e #[.bool t] 148 := by have := ht.fin; rw [hfin] at this; exact this
 refine Co func18 G G ?_
 refine Sr (Ae (IN 0) (Ni (Sq (Bk (Sr (Me (ptr b 0) (Bn G G (BinR.eqlPnil y28) (Ae (.bool false) (Ni (Cf G (Sr (Me (ptr b 0) (WL.nilCheck G G (Fa G fo85_6 (Le (hb.cell (j := 37) G) (Bn G G (BinR.neqIf y83) (Ae (.bool true) (Ni (Ct G (Sq ?_))))))))))))))))))))
 refine Rg (Ae (IN 4) (Ni (WC.ret ?_)))
 exact ⟨_, Ro G G, G, Mod.refl _ _⟩
theorem step_none (T : Nat → Nat) (b : Nat) (M : MS) (w : World) (h : MR T w b M) (hfin : M.fin = none) (hcl : M.code.length ≤ 1000000) (hnx : nextM M = none) : CallsR prog 18 #[ptr b 0] w (fun v w' => v = IN 0 ∧ Turn T w b (stepM M) w') := by
 have hM0 := h
 obtain ⟨bq, sd, ss, cv, iv, ev, en, hb, ht⟩ := h
 obtain rfl : en = .nilIface := by have := ht.fin; rw [hfin] at this; exact this
 have h6 : 6 ≤ w.heap.size := by have := ht.lt b (by rw [ht.tb]; decide); omega
 refine Co func18 G G ?_
 refine Sr (Ae (IN 0) (Ni (Sq (Bk (Sr (Me (ptr b 0) (Bn G G (BinR.eqlPnil y28) (Ae (.bool false) (Ni (Cf G (Sr (Me (ptr b 0) (WL.nilCheck G G (Fa G fo85_6 (Le (hb.cell (j := 37) G) (WL.neqIfnil y83 G G (Ae (.bool false) (Ni (Cf G (WC.skip ?_))))))))))))))))))))
 refine Sr (Me (ptr b 0) (WL.nilCheck G G (Fa G fo85_7 (Le (hb.cell (j := 38) G) (Bn (vy := I64 1#64) G G BinR.add64 (WL.nilCheck G G (Fa G fo85_7 (WL.storeB (v := I64 ((M.steps + 1#64))) G G G sz3 hb (Nat.le_of_ble_eq_true G) ?_))))))))
 intro ws1 ms1 bs1 zs1
 have E1 : Mod (fun k => T k = 1) w ws1 := (ms1.imp (fun i _ e => by subst e; exact ht.tb))
 refine Ni (Sr (Me (ptr b 0) ?_))
 have hM1 : MR T ws1 b { M with steps := M.steps + 1#64 } := ⟨bq, sd, ss, cv, iv, ev, .nilIface, bs1, (ht.other E1).regs M.x M.pc (M.steps + 1#64)⟩
 refine Ca (next_spec T b { M with steps := M.steps + 1#64 } _ hM1 hcl) ?_
 rintro v23 wn ⟨hn, en_⟩
 rw [show nextM { M with steps := M.steps + 1#64 } = nextM M from rfl, hnx] at hn
 obtain ⟨e, rfl, he, hle⟩ := hn
 have hse := Mod.size E1
 have E2 : Mod (fun k => T k = 1) w wn := Mt E1 (Mod.ext en_)
 have heb : e ≠ b := by have := (ht.lt b (by rw [ht.tb]; decide)).1; omega
 refine Me (.tuple #[instV ⟨0#8, 0#8, 0#8, 0#8, 0#64⟩, .iface 144 (ptr e 0)]) (Et G G (Et G G (WL.allocStore (v := .agg #[U8 0#8, U8 0#8, U8 0#8, U8 0#8, I64 0#64]) zt48 G sz48 G G G G ?_)))
 intro b3 w3 n3
 have E3 : Mod (fun k => T k = 1) w w3 := Mt E2 (Mod.ext n3.ext)
 refine Ae (.iface 144 (ptr e 0)) (Ni (Sq (Sr (Me (.iface 144 (ptr e 0)) (Bn G G (BinR.eqlIf y83) (Ni (Cf G (WC.skip (Sr (Me (ptr b 0) (Me (.iface 144 (ptr e 0)) (WL.nilCheck G G (Fa G fo85_6 ?_)))))))))))))
 have B4 := (bs1.ext en_).ext n3.ext
 refine WL.storeB (v := .iface 144 (ptr e 0)) G G G sz83 B4 (Nat.le_of_ble_eq_true G) ?_
 intro ws5 ms5 bs5 zs5
 have E5 : Mod (fun k => T k = 1) w ws5 := Mod.trans E3 (ms5.imp (fun i _ e => by subst e; exact ht.tb))
 refine Ni (Sr (Ae (IN 0) (Ni (WC.ret ?_))))
 have hs0 : stepM M = { M with steps := M.steps + 1#64, fin := some true } := by unfold stepM; rw [hnx]
 have hTe : T e = 0 := by rcases Nat.eq_zero_or_pos (T e) with h | h; exact h; have := (ht.lt e (by omega)).1; omega
 have B6 := (he.ext n3.ext).mod ms5 heb
 have htn : Turn T w b (stepM M) ws5 := by rw [hs0]; exact turn_end (Mod.refl _ _) (fun k h => .inl h) (ht.regs M.x M.pc (M.steps + 1#64)) E5 bs5 ⟨e, rfl, B6⟩ (fun e2 h => by cases h; exact ⟨by omega, hTe⟩) h6
 exact ⟨_, Ro G G, G, htn⟩
theorem step_some (T : Nat → Nat) (b : Nat) (M : MS) (w : World) (h : MR T w b M) (hfin : M.fin = none) (hcl : M.code.length ≤ 1000000) (hG : Glob w) (hX : HX w) (hev : M.events.length < 8796093022208) (a : RvInst) (hnx : nextM M = some a) (hok : 1 ≤ a.op.toNat ∧ a.op.toNat < 66 ∧ a.rs1.toNat < 32 ∧ a.rs2.toNat < 32 ∧ a.rd.toNat < 32) : CallsR prog 18 #[ptr b 0] w (fun v w' => v = IN 0 ∧ Turn T w b (stepM M) w') := by
 have hM0 := h
 obtain ⟨bq, sd, ss, cv, iv, ev, en, hb, ht⟩ := h
 obtain rfl : en = .nilIface := by have := ht.fin; rw [hfin] at this; exact this
 have h6 : 6 ≤ w.heap.size := by have := ht.lt b (by rw [ht.tb]; decide); omega
 refine Co func18 G G ?_
 refine Sr (Ae (IN 0) (Ni (Sq (Bk (Sr (Me (ptr b 0) (Bn G G (BinR.eqlPnil y28) (Ae (.bool false) (Ni (Cf G (Sr (Me (ptr b 0) (WL.nilCheck G G (Fa G fo85_6 (Le (hb.cell (j := 37) G) (WL.neqIfnil y83 G G (Ae (.bool false) (Ni (Cf G (WC.skip ?_))))))))))))))))))))
 refine Sr (Me (ptr b 0) (WL.nilCheck G G (Fa G fo85_7 (Le (hb.cell (j := 38) G) (Bn (vy := I64 1#64) G G BinR.add64 (WL.nilCheck G G (Fa G fo85_7 (WL.storeB (v := I64 ((M.steps + 1#64))) G G G sz3 hb (Nat.le_of_ble_eq_true G) ?_))))))))
 intro ws1 ms1 bs1 zs1
 have E1 : Mod (fun k => T k = 1) w ws1 := (ms1.imp (fun i _ e => by subst e; exact ht.tb))
 refine Ni (Sr (Me (ptr b 0) ?_))
 have hM1 : MR T ws1 b { M with steps := M.steps + 1#64 } := ⟨bq, sd, ss, cv, iv, ev, .nilIface, bs1, (ht.other E1).regs M.x M.pc (M.steps + 1#64)⟩
 refine Ca (next_spec T b { M with steps := M.steps + 1#64 } _ hM1 hcl) ?_
 rintro v23 wn ⟨hn, en_⟩
 rw [show nextM { M with steps := M.steps + 1#64 } = nextM M from rfl, hnx] at hn
 obtain rfl : v23 = .tuple #[instV a, .nilIface] := hn
 have E2 : Mod (fun k => T k = 1) w wn := Mt E1 (Mod.ext en_)
 have hw0 := hM1.ext en_
 refine Me (.tuple #[instV a, .nilIface]) (Et G G (Et G G (WL.allocStore (v := .agg #[U8 a.op, U8 a.rd, U8 a.rs1, U8 a.rs2, I64 a.imm]) zt48 G sz48 G G G G ?_)))
 intro b3 w3 n3
 have E3 : Mod (fun k => T k = 1) w w3 := Mt E2 (Mod.ext n3.ext)
 refine Ae .nilIface (Ni ?_)
 have hxn := en_.trans n3.ext
 refine Sq (Sr (Me .nilIface (WL.eqlIfnil y83 G G (Ni (Ct G (Rg (Me (ptr b 0) (Se [U8 a.op, U8 a.rd, U8 a.rs1, U8 a.rs2, I64 a.imm] n3.blk (Ca (does_spec T b { M with steps := M.steps + 1#64 } a _ (hM1.ext hxn) (glob_turn hG (Mod.fp E3) (fun k h => (ht.lt k h).2)) (Mod.cell E3 hX (fun h => by have := (ht.lt 3 (by rw [h]; decide)).2; omega)) hok.1 hok.2.1 hok.2.2.1 hok.2.2.2.1 hok.2.2.2.2 hev) ?_)))))))))
 rintro v30 wd ⟨T1, ⟨bq, sd2, ss2, cv2, iv2, ev2, en2, hb2, ht2⟩, m1, hs1, hE1, hf1⟩
 have hsz := Mod.size E3
 have mw : Mod (Fp T) w wd := (Mod.fp E3).trans m1
 have hs2 : ∀ k, T1 k ≠ 0 → T k ≠ 0 ∨ w.heap.size ≤ k := fun k h => by rcases hs1 k h with h | h; exact .inl h; exact .inr (by omega)
 refine Ae v30 (Ni (Sr (Me (ptr b 0) (Me v30 (WL.nilCheck G G (Fa G fo85_6 (WL.storeB (v := v30) G G hE1.one sz83 hb2 (Nat.le_of_ble_eq_true G) ?_)))))))
 intro ws4 ms4 bs4 zs4
 have E4 : Mod (fun k => T1 k = 1) wd ws4 := (ms4.imp (fun i _ e => by subst e; exact ht2.tb))
 refine Ni (Sr (Ae (IN 0) (Ni (WC.ret ?_))))
 have hs0 : stepM M = { (doesM { M with steps := M.steps + 1#64 } a).1 with fin := (doesM { M with steps := M.steps + 1#64 } a).2 } := by unfold stepM; rw [hnx]
 have htn : Turn T w b (stepM M) ws4 := by rw [hs0]; exact turn_end mw hs2 ht2 E4 bs4 (hE1.mod E4 (fun e h k => by have := (hf1 e h).2; omega)) (fun e h => ⟨by have := (hf1 e h).1; omega, (hf1 e h).2⟩) h6
 exact ⟨_, Ro G G, G, htn⟩
theorem step_spec (T : Nat → Nat) (b : Nat) (M : MS) (w : World) (h : MR T w b M) (hfin : M.fin = none) (hc : CodeOk M.code) (hG : Glob w) (hX : HX w) (hev : M.events.length < 8796093022208) :
  CallsR prog 18 #[ptr b 0] w (fun v w' => v = IN 0 ∧ Turn T w b (stepM M) w') := by
 rcases hnx : nextM M with _ | a
 ·exact step_none T b M w h hfin hc.1 hnx
 ·exact step_some T b M w h hfin hc.1 hG hX hev a hnx (nextM_ok hc hnx)
end Go.Proofs.S
end
section
set_option linter.unusedSimpArgs false
set_option linter.unusedVariables false
namespace Go.Proofs.S
open Go Go.Ux Go.Ux.Mach Go.Proofs
open Tryz
open Go.Proofs.M (instV Glob)
def runN : Nat → MS → Nat × MS
 | 0, M => (0, M)
 | k + 1, M => if M.fin.isSome then (0, M) else ((runN k (stepM M)).1 + 1, (runN k (stepM M)).2)
theorem runN_end {M : MS} (h : M.fin.isSome = true) : ∀ k, runN k M = (0, M)
 | 0 => rfl
 | k + 1 => by unfold runN; rw [if_pos h]
theorem runN_go {M : MS} (h : M.fin = none) (k : Nat) : runN (k + 1) M = ((runN k (stepM M)).1 + 1, (runN k (stepM M)).2) := by
 conv => lhs; unfold runN
 rw [if_neg (by rw [h]; decide)]
def stepE (M : MS) : Nat := if M.fin.isSome then 4 else 0
def stepV (M : MS) : MS := if M.fin.isSome then M else stepM M
theorem stepV_none {M : MS} (h : M.fin = none) : stepV M = stepM M := by unfold stepV; rw [h]; rfl
theorem putM_code (M : MS) (a : RvInst) (v nx : BitVec 64) : (putM M a v nx).code = M.code := rfl
theorem putM_events (M : MS) (a : RvInst) (v nx : BitVec 64) : (putM M a v nx).events = M.events := rfl
theorem storeM_code (M : MS) (k : Bool) (o z : Nat) (v : BitVec 64) : (storeM M k o z v).code = M.code := by cases k <;> rfl
theorem storeM_events (M : MS) (k : Bool) (o z : Nat) (v : BitVec 64) : (storeM M k o z v).events = M.events := by cases k <;> rfl
theorem callsM_keeps (M : MS) : (callsM M).1.code = M.code ∧ (callsM M).1.events.length ≤ M.events.length + 1 := by
 unfold callsM
 split
 ·exact ⟨G, by simp⟩
 split
 ·exact ⟨G, by simp⟩
 split
 ·exact ⟨G, by simp⟩
 split
 ·exact ⟨G, by simp⟩
 ·exact ⟨G, Nat.le_succ _⟩
theorem doesM_keeps (M : MS) (a : RvInst) : (doesM M a).1.code = M.code ∧ (doesM M a).1.events.length ≤ M.events.length + 1 := by
 unfold doesM
 simp only
 split
 ·split
  ·exact ⟨G, Nat.le_succ _⟩
  ·exact ⟨G, Nat.le_succ _⟩
 ·split
  ·split
   ·exact ⟨G, Nat.le_succ _⟩
   ·exact ⟨by rw [putM_code, storeM_code], by rw [putM_events, storeM_events]; exact Nat.le_succ _⟩
  ·split
   ·show (if _ then _ else _ : MS).code = _ ∧ (if _ then _ else _ : MS).events.length ≤ _
    split
    ·exact callsM_keeps M
    ·exact ⟨by rw [putM_code]; exact (callsM_keeps M).1, by rw [putM_events]; exact (callsM_keeps M).2⟩
   ·exact ⟨G, Nat.le_succ _⟩
theorem stepM_keeps (M : MS) : (stepM M).code = M.code ∧ (stepM M).events.length ≤ M.events.length + 1 := by
 unfold stepM
 split
 ·exact ⟨G, by show M.events.length ≤ _; omega⟩
 ·exact doesM_keeps _ _
theorem stepV_spec (T : Nat → Nat) (b : Nat) (M : MS) (w : World) (h : MR T w b M) (hc : CodeOk M.code) (hG : Glob w) (hX : HX w) (hev : M.events.length < 8796093022208) :
  CallsR prog 18 #[ptr b 0] w (fun v w' => v = IN (stepE M) ∧ Turn T w b (stepV M) w') := by
 unfold stepE stepV
 rcases hf : M.fin with _ | t
 ·exact step_spec T b M w h hf hc hG hX hev
 ·exact (step_end T b M w h t hf).mono fun v w' ⟨h1, h2⟩ => ⟨h1, Turn.of_mod (h.ext h2) (Mod.ext h2)⟩
theorem stepE_T {M : MS} (h : (((stepE M : Nat) : Int) == (0 : Int)) = true) : M.fin = none := by
 unfold stepE at h; rcases hf : M.fin with _ | t
 ·rfl
 ·rw [hf] at h; cases h
theorem stepE_F {M : MS} (h : (((stepE M : Nat) : Int) == (0 : Int)) = false) : M.fin.isSome = true := by
 unfold stepE at h; rcases hf : M.fin with _ | t
 ·rw [hf] at h; cases h
 ·rfl
theorem run_out1 {T T1 : Nat → Nat} {w w1 : World} {b n k : Nat} {M M1 : MS} {s : Int} (hr : runN s.toNat M = ((runN (s.toNat - n) M1).1 + n, (runN (s.toNat - n) M1).2)) (hg : decide (((n : Nat) : Int) < (s : Int)) = false) (hk : k + n = s.toNat) (h1 : MR T1 w1 b M1) (m : Mod (Fp T) w w1) (hs : ∀ k, T1 k ≠ 0 → T k ≠ 0 ∨ w.heap.size ≤ k) :
  (IN n : Value) = IN (runN s.toNat M).1 ∧ Turn T w b (runN s.toNat M).2 w1 := by
 have h0 : s.toNat - n = 0 := by have := of_decide_eq_false hg; omega
 rw [hr, h0]
 exact ⟨by show IN n = IN (0 + n); rw [Nat.zero_add], T1, h1, m, hs⟩
theorem run_out2 {T T1 : Nat → Nat} {w w1 : World} {b n : Nat} {M M1 : MS} {s : Int} (hr : runN s.toNat M = ((runN (s.toNat - n) M1).1 + n, (runN (s.toNat - n) M1).2)) (hg : (((if M1.fin.isSome then 4 else 0 : Nat) : Int) == (0 : Int)) = false) (h1 : MR T1 w1 b (stepV M1)) (m : Mod (Fp T) w w1) (hs : ∀ k, T1 k ≠ 0 → T k ≠ 0 ∨ w.heap.size ≤ k) :
  (IN n : Value) = IN (runN s.toNat M).1 ∧ Turn T w b (runN s.toNat M).2 w1 := by
 have hf := stepE_F hg
 have e : stepV M1 = M1 := by unfold stepV; rw [if_pos hf]
 rw [hr, runN_end hf]
 rw [e] at h1
 exact ⟨by show IN n = IN (0 + n); rw [Nat.zero_add], T1, h1, m, hs⟩
theorem run_spec (T : Nat → Nat) (b : Nat) (M : MS) (w : World) (h : MR T w b M) (s : Int) (hs1 : -9223372036854775808 ≤ s ∧ s ≤ 9223372036854775807) (hc : CodeOk M.code) (hG : Glob w) (hX : HX w) (hev : M.events.length + s.toNat < 8796093022208) : CallsR prog 11 #[ptr b 0, .int .i64 s] w (fun v w' => v = IN (runN s.toNat M).1 ∧ Turn T w b (runN s.toNat M).2 w') := by
 refine Co func11 G G ?_
 refine Sr (Ae (IN 0) (Ni (Sr (Ae (IN 0) (Ni (Sq (Bk ?_)))))))
 refine WC.loop (fun k f w_ => ∃ n T1 M1, (k + n = s.toNat) ∧ (runN s.toNat M = ((runN (s.toNat - n) M1).1 + n, (runN (s.toNat - n) M1).2)) ∧ (M1.code = M.code) ∧ (M1.events.length ≤ M.events.length + n) ∧ f 0 = ptr b 0 ∧ f 1 = .int .i64 s ∧ f 4 = IN 0 ∧ f 5 = IN n ∧ (MR T1 w_ b M1) ∧ (∀ k, T1 k ≠ 0 → T k ≠ 0 ∨ w.heap.size ≤ k) ∧ (Mod (Fp T) w w_)) s.toNat ?_ ?_
 ·exact ⟨0, T, M, by omega, G, G, by omega, G, G, G, G, h, fun k h_ => .inl h_, Mod.refl _ _⟩
 rintro ka f1 wr ⟨n, T1, M1, hk, hr, hcd, hle, h0_1, h1_1, h4_1, h5_1, hM1, hss, hmw⟩
 refine Sq (Sr (Mv (IN n) h5_1 (Mv (.int .i64 s) h1_1 (Bn G G BinR.lss (Me (.bool (decide (((n : Nat) : Int) < (s : Int)))) ?_)))))
 rcases Bool.eq_false_or_eq_true (decide (((n : Nat) : Int) < (s : Int))) with hg9 | hg9
 ·refine Gy hg9 (Mv (ptr b 0) h0_1 (Gy hg9 (Ca (stepV_spec T1 b M1 _ hM1 (by rw [hcd]; exact hc) (glob_turn hG hmw (fun k h_ => (h.lt k h_).2)) (Mod.cell hmw hX (fun h_ => by have := (h.lt 3 h_).2; omega)) (by omega)) ?_)))
  rintro _ ws ⟨rfl, T2, hM2, m2, hs2⟩
  have hmw2 : Mod (Fp T) w ws := hmw.then m2 (fun i hi e => by rcases hss i e with h_ | h_; exact h_; omega)
  have hszw := Mod.size hmw
  have hss2 : ∀ k, T2 k ≠ 0 → T k ≠ 0 ∨ w.heap.size ≤ k := fun k h_ => by rcases hs2 k h_ with h2 | h2; exact hss k h2; exact .inr (by omega)
  refine Gy hg9 (Bn G G BinR.eql (Qt hg9 G (Ni ?_)))
  refine WC.cond G (fun hc13 => ?_) (fun hc13 => ?_)
  ·refine WC.skip (Bk (Rg (Mv (IN n) h5_1 (Bn G G (BinR.succN (by omega)) (Ae (IN (n + 1)) (Ni ?_))))))
   have hns : n < s.toNat := by have := of_decide_eq_true hg9; omega
   have hfn := stepE_T hc13
   have hM3 : MR T2 ws b (stepM M1) := stepV_none hfn ▸ hM2
   exact ⟨ka - 1, by omega, (n + 1), T2, (stepM M1), by omega, by rw [hr, show s.toNat - n = (s.toNat - (n + 1)) + 1 by omega, runN_go hfn]; congr 1; omega, ((stepM_keeps M1).1.trans hcd), by have := (stepM_keeps M1).2; omega, h0_1, h1_1, h4_1, rfl, hM3, hss2, hmw2⟩
  ·refine WC.exit (Sr (Mv (IN n) h5_1 (Ae (IN n) (Ni (WC.ret ?_)))))
   have hfin : (IN n : Value) = IN (runN s.toNat M).1 ∧ Turn T w b (runN s.toNat M).2 ws := by first | exact run_out1 hr hg9 hk hM1 hmw hss | exact run_out2 hr hc13 hM2 hmw2 hss2
   exact ⟨_, Ro G G, hfin⟩
 ·refine Gz hg9 (Gz hg9 (Gz hg9 (Qf hg9 G (Ni (Cf G (WC.exit (Sr (Mv (IN n) h5_1 (Ae (IN n) (Ni (WC.ret ?_)))))))))))
  have hfin : (IN n : Value) = IN (runN s.toNat M).1 ∧ Turn T w b (runN s.toNat M).2 wr := by first | exact run_out1 hr hg9 hk hM1 hmw hss | exact run_out2 hr hc13 hM2 hmw2 hss2
  exact ⟨_, Ro G G, hfin⟩
end Go.Proofs.S
end
section
set_option linter.unusedSimpArgs false
set_option linter.unusedVariables false
namespace Go.Proofs.S
open Go Go.Ux Go.Ux.Mach Go.Proofs
open Tryz
theorem bls31_5  : ∀ w : World, (Instr.buildSlice 26 0 #[]).run prog w = .ok (Sv w.heap.size 0 0) (w.alloc (.cells #[] 2)) := fun _ => by kernel_rfl
theorem ap26 : appT prog 26 = some (2, 1, 8, #[.int .i64 0]) := by kernel_rfl
theorem bls33_5  : ∀ w : World, (Instr.buildSlice 34 0 #[]).run prog w = .ok (Sv w.heap.size 0 0) (w.alloc (.cells #[] 38)) := fun _ => by kernel_rfl
theorem steps_spec (T : Nat → Nat) (b : Nat) (M : MS) (w : World) (h : MR T w b M)  : Cx 12 #[ptr b 0] w (I64 M.steps) := by
 obtain ⟨bq, sd, ss, cv, iv, ev, en, hb, ht⟩ := h
 refine Co func12 G G ?_
 refine Sr (Ae (IN 0) (Ni (Sq (Sr (Me (ptr b 0) (Bn G G (BinR.eqlPnil y28) (Ni (Cf G (WC.skip (Sr (Me (ptr b 0) (WL.nilCheck G G (Fa G fo85_7 (Le (hb.cell (j := 38) G) (Ae (I64 M.steps) (Ni (WC.ret ?_)))))))))))))))))
 exact ⟨_, Ro G G, G, Mod.refl _ _⟩
theorem pc_spec (T : Nat → Nat) (b : Nat) (M : MS) (w : World) (h : MR T w b M)  : Cx 15 #[ptr b 0] w (U64 M.pc) := by
 obtain ⟨bq, sd, ss, cv, iv, ev, en, hb, ht⟩ := h
 refine Co func15 G G ?_
 refine Sr (Ae (U64 0#64) (Ni (Sq (Sr (Me (ptr b 0) (Bn G G (BinR.eqlPnil y28) (Ni (Cf G (WC.skip (Sr (Me (ptr b 0) (WL.nilCheck G G (Fa G fo85_4 (Le (hb.cell (j := 35) G) (Ae (U64 M.pc) (Ni (WC.ret ?_)))))))))))))))))
 exact ⟨_, Ro G G, G, Mod.refl _ _⟩
theorem ended_n (T : Nat → Nat) (b : Nat) (M : MS) (w : World) (h : MR T w b M) (hfin : M.fin = none) : Cx 13 #[ptr b 0] w (.bool false) := by
 obtain ⟨bq, sd, ss, cv, iv, ev, en, hb, ht⟩ := h
 obtain rfl : en = .nilIface := by have := ht.fin; rw [hfin] at this; exact this
 refine Co func13 G G ?_
 refine Sr (Ae (.bool false) (Ni (Sr (Me (ptr b 0) (Bn G G (BinR.eqlPnil y28) (Me (.bool false) (Gr (Me (ptr b 0) (Gr (WL.nilCheck G G (Gr (Fa G fo85_6 (Gr (Le (hb.cell (j := 37) G) (Gr (WL.neqIfnil y83 G G (Pf G (Ae (.bool false) (Ni (WC.ret ?_))))))))))))))))))))
 exact ⟨_, Ro G G, G, Mod.refl _ _⟩
theorem ended_s (T : Nat → Nat) (b : Nat) (M : MS) (w : World) (h : MR T w b M) (t : Bool) (hfin : M.fin = some t) : Cx 13 #[ptr b 0] w (.bool true) := by
 obtain ⟨bq, sd, ss, cv, iv, ev, en, hb, ht⟩ := h
 obtain ⟨e, rfl, he⟩ : ∃ e, en = .iface 144 (ptr e 0) ∧ Blk w e #[.bool t] 148 := by have := ht.fin; rw [hfin] at this; exact this
 refine Co func13 G G ?_
 refine Sr (Ae (.bool false) (Ni (Sr (Me (ptr b 0) (Bn G G (BinR.eqlPnil y28) (Me (.bool false) (Gr (Me (ptr b 0) (Gr (WL.nilCheck G G (Gr (Fa G fo85_6 (Gr (Le (hb.cell (j := 37) G) (Gr (Bn G G (BinR.neqIf y83) (Pf G (Ae (.bool true) (Ni (WC.ret ?_))))))))))))))))))))
 exact ⟨_, Ro G G, G, Mod.refl _ _⟩
theorem trapped_m (T : Nat → Nat) (b : Nat) (M : MS) (w : World) (h : MR T w b M) (hX : HX w) : Cx 16 #[ptr b 0] w (.bool (M.fin == some true)) := by
 obtain ⟨bq, sd, ss, cv, iv, ev, en, hb, ht⟩ := h
 refine Co func16 G G ?_
 refine Sr (Ae (.bool false) (Ni (Sr (Me (ptr b 0) (Bn G G (BinR.neqPnil y28) (Me (.bool true) (Gr (Me (ptr b 0) (Gr (WL.nilCheck G G (Gr (Fa G fo85_6 (Gr (Le (hb.cell (j := 37) G) (Gr (Ca (trapped_spec en M.fin _ hX ht.fin) ?_))))))))))))))))
 rintro _ wt ⟨rfl, et⟩
 have E1 : Ext w wt := et
 refine Pt G (Ae (.bool ((M.fin == some true))) (Ni (WC.ret ?_)))
 exact ⟨_, Ro G G, G, E1⟩
theorem reg_spec (T : Nat → Nat) (b : Nat) (M : MS) (w : World) (h : MR T w b M) (n : Nat) (hn : n < 32) : Cx 17 #[ptr b 0, IN n] w (U64 (M.x n)) := by
 obtain ⟨bq, sd, ss, cv, iv, ev, en, hb, ht⟩ := h
 refine Co func17 G G ?_
 refine Sr (Ae (U64 0#64) (Ni (Sq (Sr (Me (ptr b 0) (Bn G G (BinR.eqlPnil y28) (Me (.bool false) (Gr (Me (IN n) (Gr (Bo G G BinR.lss (Pf G (Me (.bool false) (Gr (Me (IN n) (Gr (Bo G G BinR.geq (Pf G (Ni (Cf G (WC.skip ?_)))))))))))))))))))))
 refine Sr (Me (ptr b 0) (Me (IN n) (WL.nilCheck G G (Fa G fo85_3 (WL.indexArr1 (i := n) ar68 sz39 G G hn G (Lx G (hb.cell (machCells_x _ _ _ _ _ _ _ _ hn)) (Ae (U64 (M.x n)) (Ni (WC.ret ?_)))))))))
 exact ⟨_, Ro G G, G, Mod.refl _ _⟩
theorem ended_spec (T : Nat → Nat) (b : Nat) (M : MS) (w : World) (h : MR T w b M) : Cx 13 #[ptr b 0] w (.bool M.fin.isSome) := by
 rcases hf : M.fin with _ | t
 ·exact ended_n T b M w h hf
 ·exact ended_s T b M w h t hf
theorem clone31_nil (w : World) : Cx 31 #[.slice none 0 0] w (.slice none 0 0) := by
 refine Co func31 G G ?_
 refine Sr (Ae (.slice none 0 0) (Ni (Sq (Sr (Me (.slice none 0 0) (Bn G G (BinR.eqlSlnil y26) (Ni (Ct G (Sr (Ae (.slice none 0 0) (Ni (WC.ret ?_))))))))))))
 exact ⟨_, Ro G G, G, Mod.refl _ _⟩
theorem clone31_zero (a : Addr) (c : Nat) (w : World) (hS : Sl w (.slice (some a) 0 c) 1 0 []) : CallsR prog 31 #[.slice (some a) 0 c] w (fun v w' => Ux.Own w' 1 v 0 [] ∧ From w.heap.size v ∧ (∀ g, v.ownBlock = some g → g < w'.heap.size) ∧ Ext w w') := by
 refine Co func31 G G ?_
 refine Sr (Ae (.slice none 0 0) (Ni (Sq (Sr (Me (.slice (some a) 0 c) (Bn G G (BinR.eqlSl y26) (Ni (Cf G (WC.skip (Sr (WL.buildSlice (vs := []) G bls31_5 G ?_)))))))))))
 intro b5 w5 n5
 have E1 : Ext w w5 := n5.ext
 refine Me (.slice (some a) 0 c) (WL.appendNone ap26 G (Nat.le_refl _) G ((hS.ext E1).src y26 (fun u h => by cases h)) G (Ae (Sv b5 0 0) (Ni (WC.ret ?_))))
 exact ⟨_, Ro G G, Ux.Own.empty _ _ _, (fun g hg => by have h : b5 = g := Option.some.inj hg; have := n5.num; omega), (fun g hg => by have h : b5 = g := Option.some.inj hg; have := n5.num; have := n5.size; omega), E1⟩
theorem clone31_some (a : Addr) (c n : Nat) (xs : List Value) (w : World) (hS : Sl w (.slice (some a) n c) 1 n xs) (h1 : ∀ u ∈ xs, u.oneCell' = true) (hn : n ≤ 8796093022208) : CallsR prog 31 #[.slice (some a) n c] w (fun v w' => Ux.Own w' 1 v n xs ∧ From w.heap.size v ∧ Ext w w') := by
 refine Co func31 G G ?_
 refine Sr (Ae (.slice none 0 0) (Ni (Sq (Sr (Me (.slice (some a) n c) (Bn G G (BinR.eqlSl y26) (Ni (Cf G (WC.skip (Sr (WL.buildSlice (vs := []) G bls31_5 G ?_)))))))))))
 intro b5 w5 n5
 have E1 : Ext w w5 := n5.ext
 refine Me (.slice (some a) n c) (WL.append (k := 0) (m := n) (xs := []) (news := xs) ap26 G G G (Ux.Own.empty _ 1 b5) ((hS.ext E1).src y26 h1) (by omega) (by omega) G ?_)
 intro v7 w7 o7 m7 l7
 have o7b : Ux.Own w7 1 v7 n xs := by simpa using o7
 have F2 : From w.heap.size v7 := LocV.from l7 (Mod.size E1) ((fun g hg => by have h : b5 = g := Option.some.inj hg; have := n5.num; omega))
 have E3 : Ext w w7 := Mod.from E1 m7 ((fun g hg => by have h : b5 = g := Option.some.inj hg; have := n5.num; omega))
 refine Ae v7 (Ni (WC.ret ?_))
 exact ⟨_, Ro G G, o7b, F2, E3⟩
theorem clone31 (v : Value) (n : Nat) (xs : List Value) (w : World) (hS : Sl w v 1 n xs) (hv : v = .slice none 0 0 ∨ ∃ a c, v = .slice (some a) n c) (h1 : ∀ u ∈ xs, u.oneCell' = true) (hn : n ≤ 8796093022208) : CallsR prog 31 #[v] w (fun v w' => Ux.Own w' 1 v n xs ∧ From w.heap.size v ∧ (∀ g, v.ownBlock = some g → g < w'.heap.size) ∧ Ext w w') := by
 rcases hv with rfl | ⟨a, c, rfl⟩
 ·have h0 : n = 0 := by obtain ⟨ao, cap, e, _⟩ := hS; cases e; rfl
  have hx : xs = [] := by have := Sl.size_le hS; rw [h0] at this; exact List.eq_nil_of_length_eq_zero (by simpa using this)
  subst h0; subst hx
  exact (clone31_nil w).mono fun v w' ⟨e, h⟩ => by subst e; exact ⟨Ux.Own.nil _ _, (fun g hg => by cases hg), (fun g hg => by cases hg), h⟩
 ·rcases Nat.eq_zero_or_pos n with h0 | h0
  ·subst h0
   have hx : xs = [] := by have := Sl.size_le hS; exact List.eq_nil_of_length_eq_zero (by simpa using this)
   subst hx
   exact clone31_zero a c w hS
  ·exact (clone31_some a c n xs w hS h1 hn).mono fun v w' ⟨k1, k2, k3⟩ => ⟨k1, k2, fun g hg => k1.lt h0 (by decide) hg, k3⟩
theorem clone33_nil (w : World) : Cx 33 #[.slice none 0 0] w (.slice none 0 0) := by
 refine Co func33 G G ?_
 refine Sr (Ae (.slice none 0 0) (Ni (Sq (Sr (Me (.slice none 0 0) (Bn G G (BinR.eqlSlnil y34) (Ni (Ct G (Sr (Ae (.slice none 0 0) (Ni (WC.ret ?_))))))))))))
 exact ⟨_, Ro G G, G, Mod.refl _ _⟩
theorem clone33_zero (a : Addr) (c : Nat) (w : World) (hS : Sl w (.slice (some a) 0 c) 2 0 []) : CallsR prog 33 #[.slice (some a) 0 c] w (fun v w' => Ux.Own w' 2 v 0 [] ∧ From w.heap.size v ∧ (∀ g, v.ownBlock = some g → g < w'.heap.size) ∧ Ext w w') := by
 refine Co func33 G G ?_
 refine Sr (Ae (.slice none 0 0) (Ni (Sq (Sr (Me (.slice (some a) 0 c) (Bn G G (BinR.eqlSl y34) (Ni (Cf G (WC.skip (Sr (WL.buildSlice (vs := []) G bls33_5 G ?_)))))))))))
 intro b5 w5 n5
 have E1 : Ext w w5 := n5.ext
 refine Me (.slice (some a) 0 c) (WL.appendNone ap34 G (Nat.le_refl _) G ((hS.ext E1).src y34 (fun u h => by cases h)) G (Ae (Sv b5 0 0) (Ni (WC.ret ?_))))
 exact ⟨_, Ro G G, Ux.Own.empty _ _ _, (fun g hg => by have h : b5 = g := Option.some.inj hg; have := n5.num; omega), (fun g hg => by have h : b5 = g := Option.some.inj hg; have := n5.num; have := n5.size; omega), E1⟩
theorem clone33_some (a : Addr) (c n : Nat) (xs : List Value) (w : World) (hS : Sl w (.slice (some a) n c) 2 n xs) (h1 : ∀ u ∈ xs, u.oneCell' = true) (hn : n ≤ 8796093022208) : CallsR prog 33 #[.slice (some a) n c] w (fun v w' => Ux.Own w' 2 v n xs ∧ From w.heap.size v ∧ Ext w w') := by
 refine Co func33 G G ?_
 refine Sr (Ae (.slice none 0 0) (Ni (Sq (Sr (Me (.slice (some a) n c) (Bn G G (BinR.eqlSl y34) (Ni (Cf G (WC.skip (Sr (WL.buildSlice (vs := []) G bls33_5 G ?_)))))))))))
 intro b5 w5 n5
 have E1 : Ext w w5 := n5.ext
 refine Me (.slice (some a) n c) (WL.append (k := 0) (m := n) (xs := []) (news := xs) ap34 G G G (Ux.Own.empty _ 2 b5) ((hS.ext E1).src y34 h1) (by omega) (by omega) G ?_)
 intro v7 w7 o7 m7 l7
 have o7b : Ux.Own w7 2 v7 n xs := by simpa using o7
 have F2 : From w.heap.size v7 := LocV.from l7 (Mod.size E1) ((fun g hg => by have h : b5 = g := Option.some.inj hg; have := n5.num; omega))
 have E3 : Ext w w7 := Mod.from E1 m7 ((fun g hg => by have h : b5 = g := Option.some.inj hg; have := n5.num; omega))
 refine Ae v7 (Ni (WC.ret ?_))
 exact ⟨_, Ro G G, o7b, F2, E3⟩
theorem clone33 (v : Value) (n : Nat) (xs : List Value) (w : World) (hS : Sl w v 2 n xs) (hv : v = .slice none 0 0 ∨ ∃ a c, v = .slice (some a) n c) (h1 : ∀ u ∈ xs, u.oneCell' = true) (hn : n ≤ 8796093022208) : CallsR prog 33 #[v] w (fun v w' => Ux.Own w' 2 v n xs ∧ From w.heap.size v ∧ (∀ g, v.ownBlock = some g → g < w'.heap.size) ∧ Ext w w') := by
 rcases hv with rfl | ⟨a, c, rfl⟩
 ·have h0 : n = 0 := by obtain ⟨ao, cap, e, _⟩ := hS; cases e; rfl
  have hx : xs = [] := by have := Sl.size_le hS; rw [h0] at this; exact List.eq_nil_of_length_eq_zero (by simpa using this)
  subst h0; subst hx
  exact (clone33_nil w).mono fun v w' ⟨e, h⟩ => by subst e; exact ⟨Ux.Own.nil _ _, (fun g hg => by cases hg), (fun g hg => by cases hg), h⟩
 ·rcases Nat.eq_zero_or_pos n with h0 | h0
  ·subst h0
   have hx : xs = [] := by have := Sl.size_le hS; exact List.eq_nil_of_length_eq_zero (by simpa using this)
   subst hx
   exact clone33_zero a c w hS
  ·exact (clone33_some a c n xs w hS h1 hn).mono fun v w' ⟨k1, k2, k3⟩ => ⟨k1, k2, fun g hg => k1.lt h0 (by decide) hg, k3⟩
theorem events_spec (T : Nat → Nat) (b : Nat) (M : MS) (w : World) (h : MR T w b M) (hev : M.events.length ≤ 8796093022208) : CallsR prog 14 #[ptr b 0] w (fun v w' => Ux.Own w' 2 v M.events.length (evV M.events) ∧ From w.heap.size v ∧ Ext w w') := by
 obtain ⟨bq, sd, ss, cv, iv, ev, en, hb, ht⟩ := h
 refine Co func14 G G ?_
 refine Sr (Ae (.slice none 0 0) (Ni (Sq (Sr (Me (ptr b 0) (Bn G G (BinR.eqlPnil y28) (Ni (Cf G (WC.skip (Sr (Me (ptr b 0) (WL.nilCheck G G (Fa G fo85_5 (Le (hb.cell (j := 36) G) (Ca (clone33 ev M.events.length (evV M.events) _ ht.evs.sl ht.evs.form (evV_one _) (by omega)) ?_)))))))))))))))
 rintro v9 wc ⟨hc1, hc2, _, hc3⟩
 have E1 : Ext w wc := hc3
 refine Ae v9 (Ni (WC.ret ?_))
 exact ⟨_, Ro G G, hc1, hc2, E1⟩
theorem peek_no (T : Nat → Nat) (b : Nat) (M : MS) (w : World) (h : MR T w b M) (addr : BitVec 64) (hw : whereM M.n addr 8 = none) : Cx 21 #[ptr b 0, U64 addr] w (.tuple #[U64 0#64, .bool false]) := by
 have hM0 := h
 refine Co func21 G G ?_
 refine Sr (Ae (U64 0#64) (Ae (.bool false) (Ni (Sq (Sr (Me (ptr b 0) (Bn G G (BinR.eqlPnil y28) (Ni (Cf G (WC.skip (Sr (Me (ptr b 0) (Me (U64 addr) (Ca (loadM_spec T b M addr 8 false _ hM0 (by decide) (by decide)) ?_))))))))))))))
 rintro v57 wl ⟨hl, el⟩
 obtain ⟨e, rfl, he, hle⟩ := hl.no hw
 have E1 : Ext w wl := el
 refine Me (.tuple #[Z8, .iface 144 (ptr e 0)]) (Et G G (Et G G (Ae (U64 0#64) (Ae (.iface 144 (ptr e 0)) (Ni (Sq (WC.draw (fun w_ => Ext wl w_) 5 G mixed ?_)))))))
 intro wd_4 ed_4
 have R2 : Ext wl wd_4 := ed_4
 have E3 := Mt E1 ed_4
 refine Tm 0 (U64 0#64) G G R2 (Tm 1 (.iface 144 (ptr e 0)) G G R2 (Tp 2 (.bool false) G G (Bn G G (BinR.eqlIf y83) Ok) R2 (Tm 3 (U64 0#64) G G R2 (Tm 4 (.bool false) G G R2 (WA.done (by kernel_rfl) (WC.ret ?_))))))
 exact ⟨_, Rp G G G, G, E3⟩
theorem peek_ok (T : Nat → Nat) (b : Nat) (M : MS) (w : World) (h : MR T w b M) (addr : BitVec 64) (k : Bool) (off : Nat) (hw : whereM M.n addr 8 = some (k, off)) : Cx 21 #[ptr b 0, U64 addr] w (.tuple #[U64 (loadV M.d M.s k off 8 false), .bool true]) := by
 have hM0 := h
 refine Co func21 G G ?_
 refine Sr (Ae (U64 0#64) (Ae (.bool false) (Ni (Sq (Sr (Me (ptr b 0) (Bn G G (BinR.eqlPnil y28) (Ni (Cf G (WC.skip (Sr (Me (ptr b 0) (Me (U64 addr) (Ca (loadM_spec T b M addr 8 false _ hM0 (by decide) (by decide)) ?_))))))))))))))
 rintro v57 wl ⟨hl, el⟩
 obtain rfl := hl.ok hw
 have E1 : Ext w wl := el
 refine Me (.tuple #[U64 (loadV M.d M.s k off 8 false), .nilIface]) (Et G G (Et G G (Ae (U64 (loadV M.d M.s k off 8 false)) (Ae .nilIface (Ni (Sq (WC.draw (fun w_ => Ext wl w_) 5 G mixed ?_)))))))
 intro wd_4 ed_4
 have R2 : Ext wl wd_4 := ed_4
 have E3 := Mt E1 ed_4
 refine Tm 0 (U64 (loadV M.d M.s k off 8 false)) G G R2 (Tm 1 .nilIface G G R2 (Tp 2 (.bool true) G G (WL.eqlIfnil y83 G G Ok) R2 (Tm 3 (U64 (loadV M.d M.s k off 8 false)) G G R2 (Tm 4 (.bool true) G G R2 (WA.done (by kernel_rfl) (WC.ret ?_))))))
 exact ⟨_, Rp G G G, G, E3⟩
end Go.Proofs.S
end
section
set_option linter.unusedSimpArgs false
set_option linter.unusedVariables false
namespace Go.Proofs.R
open Go Go.Ux Go.Ux.Image Go.Proofs
open Tryz
theorem fo25_0 : fieldOff prog 25 0 = some 0 := by kernel_rfl
theorem fo25_2 : fieldOff prog 25 2 = some 2 := by kernel_rfl
theorem el23 : elemT prog 23 = some 50 := by kernel_rfl
theorem fo25_1 : fieldOff prog 25 1 = some 1 := by kernel_rfl
theorem el22 : elemT prog 22 = some 98 := by kernel_rfl
theorem sz98 : sizeT prog 98 = some 2 := by kernel_rfl
theorem fo98_1 : fieldOff prog 98 1 = some 1 := by kernel_rfl
theorem mixed : prog.follows .mixedOrders = true := by kernel_rfl
theorem headAt_eq (l : List (List UInt8 × Int)) (h : 0 < l.length) : headAt l = (l[0]).2 := by cases l with
 | nil => simp at h
 | cons a r => rfl
theorem right2_spec (bm : Nat) (sv wv : Value) (I : Img) (w : World) (hR : Rep w sv wv I) (hB : Blk w bm #[.int .i64 I.entry, sv, wv] 25) : CallsR prog 55 #[ptr bm 0] w (fun v w' => v = .bool (right2 I) ∧ w = w') := by
 have hI1 := hR.ls
 have hI2 := hR.lw
 refine Co func55 G G ?_
 refine Sr (Ae (.bool false) (Ni (Sr (Fa G fo25_0 (Le (hB.cell (j := 0) G) (Bn G G BinR.geq (Me (.bool (decide ((0 : Int) ≤ (I.entry : Int)))) ?_)))))))
 rcases Bool.eq_false_or_eq_true (decide ((0 : Int) ≤ (I.entry : Int))) with hg5 | hg5
 ·refine Gy hg5 (Fa G fo25_0 (Gy hg5 (Le (hB.cell (j := 0) G) (Gy hg5 (Bn G G BinR.leq (Qt hg5 G (Me (.bool (decide ((I.entry : Int) ≤ (524288 : Int)))) ?_)))))))
  rcases Bool.eq_false_or_eq_true (decide ((I.entry : Int) ≤ (524288 : Int))) with hg10 | hg10
  ·refine Gy hg10 (Fa G fo25_0 (Gy hg10 (Le (hB.cell (j := 0) G) (Gy hg10 (Bn G G (BinR.remI (by have := of_decide_eq_true hg5; omega) (by decide)) (Gy hg10 (Bn G G BinR.eql (Qt hg10 G (Ae (.bool (((I.entry % 8 : Int) == (0 : Int)))) (Ni (WC.ret ?_)))))))))))
   have hfin : ((.bool (((I.entry % 8 : Int) == (0 : Int)))) : Value) = Value.bool (right2 I) := congrArg Value.bool (by unfold right2; simp [*])
   exact ⟨_, Ro G G, hfin, G⟩
  ·refine Gz hg10 (Gz hg10 (Gz hg10 (Gz hg10 (Qf hg10 G (Ae (.bool false) (Ni (WC.ret ?_)))))))
   have hfin : ((.bool false) : Value) = Value.bool (right2 I) := congrArg Value.bool (by unfold right2; simp [*])
   exact ⟨_, Ro G G, hfin, G⟩
 ·refine Gz hg5 (Gz hg5 (Gz hg5 (Qf hg5 G (Me (.bool false) (Gx (Gx (Gx (Gx (Pf G (Ae (.bool false) (Ni (WC.ret ?_))))))))))))
  have hfin : ((.bool false) : Value) = Value.bool (right2 I) := congrArg Value.bool (by unfold right2; simp [*])
  exact ⟨_, Ro G G, hfin, G⟩
theorem right3_spec (bm : Nat) (sv wv : Value) (I : Img) (w : World) (hR : Rep w sv wv I) (hB : Blk w bm #[.int .i64 I.entry, sv, wv] 25) : CallsR prog 56 #[ptr bm 0] w (fun v w' => v = .bool (right3 I) ∧ w = w') := by
 have hI1 := hR.ls
 have hI2 := hR.lw
 refine Co func56 G G ?_
 refine Sr (Ae (.bool false) (Ni (Sr (Fa G fo25_2 (Le (hB.cell (j := 2) G) (WL.lenSl (sz := 1) (m := I.words.length) (xs := wordCells I.words) el23 G hR.w G (Bn G G BinR.geq (Me (.bool (decide ((1 : Int) ≤ ((I.words.length : Nat) : Int)))) ?_))))))))
 rcases Bool.eq_false_or_eq_true (decide ((1 : Int) ≤ ((I.words.length : Nat) : Int))) with hg6 | hg6
 ·refine Gy hg6 (Fa G fo25_2 (Gy hg6 (Le (hB.cell (j := 2) G) (Gy hg6 (WL.lenSl (sz := 1) (m := I.words.length) (xs := wordCells I.words) el23 G hR.w G (Gy hg6 (Bn G G BinR.leq (Qt hg6 G (Ae (.bool (decide (((I.words.length : Nat) : Int) ≤ (262144 : Int)))) (Ni (WC.ret ?_)))))))))))
  have hfin : ((.bool (decide (((I.words.length : Nat) : Int) ≤ (262144 : Int)))) : Value) = Value.bool (right3 I) := congrArg Value.bool (by unfold right3; rw [Bool.eq_iff_iff]; simp at *; omega)
  exact ⟨_, Ro G G, hfin, G⟩
 ·refine Gz hg6 (Gz hg6 (Gz hg6 (Gz hg6 (Qf hg6 G (Ae (.bool false) (Ni (WC.ret ?_)))))))
  have hfin : ((.bool false) : Value) = Value.bool (right3 I) := congrArg Value.bool (by unfold right3; rw [Bool.eq_iff_iff]; simp at *; omega)
  exact ⟨_, Ro G G, hfin, G⟩
theorem right4_spec (bm : Nat) (sv wv : Value) (I : Img) (w : World) (hR : Rep w sv wv I) (hB : Blk w bm #[.int .i64 I.entry, sv, wv] 25) : CallsR prog 57 #[ptr bm 0] w (fun v w' => v = .bool (right4 I) ∧ w = w') := by
 have hI1 := hR.ls
 have hI2 := hR.lw
 refine Co func57 G G ?_
 refine Sr (Ae (.bool false) (Ni (Sr (Fa G fo25_1 (Le (hB.cell (j := 1) G) (WL.lenSl (sz := 2) (m := I.syms.length) (xs := symCells I.syms) el22 G hR.s G (Bn G G BinR.geq (Me (.bool (decide ((1 : Int) ≤ ((I.syms.length : Nat) : Int)))) ?_))))))))
 rcases Bool.eq_false_or_eq_true (decide ((1 : Int) ≤ ((I.syms.length : Nat) : Int))) with hg6 | hg6
 ·refine Gy hg6 (Fa G fo25_1 (Gy hg6 (Le (hB.cell (j := 1) G) (Gy hg6 (WL.lenSl (sz := 2) (m := I.syms.length) (xs := symCells I.syms) el22 G hR.s G (Gy hg6 (Bn G G BinR.leq (Qt hg6 G (Me (.bool (decide (((I.syms.length : Nat) : Int) ≤ (65 : Int)))) ?_)))))))))
  rcases Bool.eq_false_or_eq_true (decide (((I.syms.length : Nat) : Int) ≤ (65 : Int))) with hg12 | hg12
  ·have hpos : 0 < I.syms.length := by have := hg6; simp at this; omega
   have hhead := headAt_eq I.syms hpos
   obtain ⟨bs0, os0, cs0, es0, hcs0⟩ := hR.s.at hpos
   refine Gy hg12 (Fa G fo25_1 (Gy hg12 (Le (hB.cell (j := 1) G) (Gy hg12 (WL.indexAddr (i := 0) (b := bs0) (o := os0) el22 sz98 (Eq.trans G es0) G (by omega) G (Gy hg12 (Fa G fo98_1 (Gy hg12 (Lx G ((symCells_get I.syms 0 (by omega)).2 |> hcs0 (0 * 2 + 1) _) (Gy hg12 (Bn G G BinR.eql (Qt hg12 G (Ae (.bool ((((I.syms[0]).2 : Int) == (0 : Int)))) (Ni (WC.ret ?_)))))))))))))))
   have hfin : ((.bool ((((I.syms[0]).2 : Int) == (0 : Int)))) : Value) = Value.bool (right4 I) := congrArg Value.bool (by unfold right4; first | (rw [Bool.eq_iff_iff]; simp at *; omega) | (rw [hhead]; simp [*]; done) | (rw [hhead]; rw [Bool.eq_iff_iff]; simp at *; omega))
   exact ⟨_, Ro G G, hfin, G⟩
  ·refine Gz hg12 (Gz hg12 (Gz hg12 (Gz hg12 (Gz hg12 (Gz hg12 (Qf hg12 G (Ae (.bool false) (Ni (WC.ret ?_)))))))))
   have hfin : ((.bool false) : Value) = Value.bool (right4 I) := congrArg Value.bool (by unfold right4; first | (rw [Bool.eq_iff_iff]; simp at *; omega) | (rw [hhead]; simp [*]; done) | (rw [hhead]; rw [Bool.eq_iff_iff]; simp at *; omega))
   exact ⟨_, Ro G G, hfin, G⟩
 ·refine Gz hg6 (Gz hg6 (Gz hg6 (Gz hg6 (Qf hg6 G (Me (.bool false) (Gx (Gx (Gx (Gx (Gx (Gx (Pf G (Ae (.bool false) (Ni (WC.ret ?_)))))))))))))))
  have hfin : ((.bool false) : Value) = Value.bool (right4 I) := congrArg Value.bool (by unfold right4; first | (rw [Bool.eq_iff_iff]; simp at *; omega) | (rw [hhead]; simp [*]; done) | (rw [hhead]; rw [Bool.eq_iff_iff]; simp at *; omega))
  exact ⟨_, Ro G G, hfin, G⟩
end Go.Proofs.R
end
section
set_option linter.unusedSimpArgs false
set_option linter.unusedVariables false
namespace Go.Proofs.R
open Go Go.Ux Go.Ux.Image Go.Proofs
open Tryz
theorem fo98_0 : fieldOff prog 98 0 = some 0 := by kernel_rfl
theorem ag9 : isAggT prog 9 = some false := by kernel_rfl
theorem sz3 : sizeT prog 3 = some 1 := by kernel_rfl
theorem zero3 : ∀ w : World, (zeroValue 3).run prog w = .ok (IN 0) w := fun _ => by kernel_rfl
def Cnt (ls : List (List UInt8 × Nat)) (ns : List (List UInt8)) : Prop := ∀ k, (0 < cnt ls k ↔ k ∈ ns) ∧ cnt ls k ≤ ns.length
theorem Cnt.next {ls : List (List UInt8 × Nat)} {ns : List (List UInt8)} (h : Cnt ls ns) (k : List UInt8) : Cnt (cntSet ls k (cnt ls k + 1)) (k :: ns) := by
 intro k'
 have h1 := h k'
 have h2 := h k
 rw [cnt_set]
 by_cases e : k = k'
 ·subst e; simp; omega
 ·have : ¬ k' = k := fun e' => e e'.symm
  simp [e, this, h1]; omega
theorem symOk_not (nw : Nat) (ns : List (List UInt8)) (last : Int) (s : List UInt8 × Int) (c : Nat) (hmem : ns.contains s.1 = decide (0 < c)) :
  (!symOk nw ns last s) = (decide ((s.1.length : Int) < 1) || decide (64 < (s.1.length : Int)) || decide (1 < ((c + 1 : Nat) : Int)) || decide (s.2 ≤ last) || (s.2 % 4 != 0) || decide (((4 * nw : Nat) : Int) ≤ s.2)) := by
 unfold symOk
 rw [hmem]
 generalize s.1.length = n
 generalize s.2 = a
 rw [Bool.eq_iff_iff]
 simp only [Bool.not_eq_true', Bool.and_eq_false_iff, Bool.not_eq_false', Bool.or_eq_true, decide_eq_true_eq, decide_eq_false_iff_not, bne_iff_ne, beq_eq_false_iff_ne, ne_eq]
 omega
theorem wrong_spec (s : List UInt8 × Int) (ls : List (List UInt8 × Nat)) (ns : List (List UInt8)) (last : Int) (bn bl r bm : Nat) (sv wv : Value) (I : Img) (w : World) (hn : Blk w bn #[.map (some r)] 128) (hL : Blk w bl #[.int .i64 last] 3) (hB : Blk w bm #[.int .i64 I.entry, sv, wv] 25) (hR : Rep w sv wv I) (hM : MapS w r ls) (hC : Cnt ls ns) (hlast : -1 ≤ last) (hns : ns.length ≤ 1000000000) (hs2 : s.2 ≤ 9223372036854775807) (d1 : bn ≠ r) (d2 : bl ≠ r) (d3 : bm ≠ r) (d4 : bn ≠ bl) (d5 : bm ≠ bl) (dw : 0 < I.words.length → ∀ g, wv.ownBlock = some g → g ≠ r ∧ g ≠ bl) (s64 : True) : CallsR prog 54 #[.agg #[St s.1, .int .i64 s.2], ptr bn 0, ptr bl 0, ptr bm 0] w (fun v w' => v = .bool (!symOk I.words.length ns last s) ∧ Mod (fun k => k = r ∨ k = bl) w w' ∧ MapS w' r (cntSet ls s.1 (cnt ls s.1 + 1)) ∧ Blk w' bl #[.int .i64 s.2] 3) := by
 have hI2 := hR.lw
 have hc0 := (hC s.1).2
 have hmem : ns.contains s.1 = decide (0 < cnt ls s.1) := by rw [Bool.eq_iff_iff, decide_eq_true_eq, (hC s.1).1, List.contains_iff_mem]
 have hcc : cnt (cntSet ls s.1 (cnt ls s.1 + 1)) s.1 = cnt ls s.1 + 1 := by rw [cnt_set]; simp
 refine Co func54 G G ?_
 refine Sr (WL.box (v := .agg #[St s.1, .int .i64 s.2]) G G ?_)
 intro b4 w4 n4
 refine Ae (.bool false) (Ni (Sr ?_))
 have B2 := hn.ext n4.ext
 refine Le (B2.cell (j := 0) G) (Fa G fo98_0 (Le (n4.blk.cell (j := 0) G) (WL.lookupS (ls := ls) (k := s.1) y128 y9 zero3 G G (hM.ext n4.ext) G (Bn G G (BinR.succN (by omega)) (WL.mapSet (ls := ls) (k := s.1) (v := cnt ls s.1 + 1) y128 y9 G G G (hM.ext n4.ext) ?_)))))
 intro wm hm mm
 refine Ni (Sr (Fa G fo98_0 ?_))
 have B3 := n4.blk.mod mm ((fun e => by have := n4.num; have := hM.lt; omega))
 refine Le (B3.cell (j := 0) G) (WL.lenSt y9 G G (Bn G G BinR.lss (Me (.bool (decide (((s.1.length : Nat) : Int) < (1 : Int)))) ?_)))
 rcases Bool.eq_false_or_eq_true (decide (((s.1.length : Nat) : Int) < (1 : Int))) with hg16 | hg16
 ·refine Gz hg16 (Gz hg16 (Gz hg16 (Gz hg16 (Qt hg16 G (Me (.bool true) (Gx (Gx (Gx (Gx (Gx (Pt G (Me (.bool true) (Gx (Gx (Gx (Gx (Pt G (Me (.bool true) (Gx (Gx (Gx (Gx (Pt G ?_)))))))))))))))))))))))
  refine Me (.bool true) (Gx (Gx (Gx (Gx (Gx (Gx (Gx (Pt G (Ae (.bool true) (Ni (Sr (Fa G fo98_1 (Le (B3.cell (j := 1) G) ?_)))))))))))))
  have B4 := (hL.ext n4.ext).mod mm d2
  refine WL.storeB (v := .int .i64 s.2) G G G sz3 B4 (Nat.le_of_ble_eq_true G) ?_
  intro ws5 ms5 bs5 zs5
  refine Ni (Sr (Me (.bool true) (Ae (.bool true) (Ni (WC.ret ?_)))))
  have hfin : ((.bool true) : Value) = Value.bool (!symOk I.words.length ns last s) := congrArg Value.bool (by rw [symOk_not _ _ _ _ _ hmem]; clear hn hL hB hR hM hC dw hm hmem; simp only [hcc] at *; simp only [*, Bool.true_or, Bool.or_true, Bool.false_or, Bool.or_false])
  exact ⟨_, Ro G G, hfin, Mt (Mt (Mod.ext n4.ext) (mm.imp (fun _ _ h => Or.inl h))) (ms5.imp (fun _ _ h => Or.inr h)), hm.mod ms5 (fun e => d2 e.symm), bs5⟩
 ·refine Gy hg16 (Fa G fo98_0 (Gy hg16 (Le (B3.cell (j := 0) G) (Gy hg16 (WL.lenSt y9 G G (Gy hg16 (Bn G G BinR.gtr (Qf hg16 G (Me (.bool (decide ((64 : Int) < ((s.1.length : Nat) : Int)))) ?_)))))))))
  rcases Bool.eq_false_or_eq_true (decide ((64 : Int) < ((s.1.length : Nat) : Int))) with hg22 | hg22
  ·refine Gz hg22 (Gz hg22 (Gz hg22 (Gz hg22 (Gz hg22 (Qt hg22 G (Me (.bool true) (Gx (Gx (Gx (Gx (Pt G (Me (.bool true) (Gx (Gx (Gx (Gx (Pt G (Me (.bool true) (Gx (Gx (Gx (Gx (Gx ?_)))))))))))))))))))))))
   refine Gx (Gx (Pt G (Ae (.bool true) (Ni (Sr (Fa G fo98_1 (Le (B3.cell (j := 1) G) ?_)))))))
   have B6 := (hL.ext n4.ext).mod mm d2
   refine WL.storeB (v := .int .i64 s.2) G G G sz3 B6 (Nat.le_of_ble_eq_true G) ?_
   intro ws7 ms7 bs7 zs7
   refine Ni (Sr (Me (.bool true) (Ae (.bool true) (Ni (WC.ret ?_)))))
   have hfin : ((.bool true) : Value) = Value.bool (!symOk I.words.length ns last s) := congrArg Value.bool (by rw [symOk_not _ _ _ _ _ hmem]; clear hn hL hB hR hM hC dw hm hmem; simp only [hcc] at *; simp only [*, Bool.true_or, Bool.or_true, Bool.false_or, Bool.or_false])
   exact ⟨_, Ro G G, hfin, Mt (Mt (Mod.ext n4.ext) (mm.imp (fun _ _ h => Or.inl h))) (ms7.imp (fun _ _ h => Or.inr h)), hm.mod ms7 (fun e => d2 e.symm), bs7⟩
  ·refine Gy hg22 ?_
   have B8 := B2.mod mm d1
   refine Le (B8.cell (j := 0) G) (Gy hg22 (Fa G fo98_0 (Gy hg22 (Le (B3.cell (j := 0) G) (Gy hg22 (WL.lookupS (ls := cntSet ls s.1 (cnt ls s.1 + 1)) (k := s.1) y128 y9 zero3 G G hm G (Gy hg22 (Bn G G BinR.gtr (Qf hg22 G (Me (.bool (decide ((1 : Int) < ((cnt (cntSet ls s.1 (cnt ls s.1 + 1)) s.1 : Nat) : Int)))) ?_))))))))))
   rcases Bool.eq_false_or_eq_true (decide ((1 : Int) < ((cnt (cntSet ls s.1 (cnt ls s.1 + 1)) s.1 : Nat) : Int))) with hg29 | hg29
   ·refine Gz hg29 (Gz hg29 (Gz hg29 (Gz hg29 (Qt hg29 G (Me (.bool true) (Gx (Gx (Gx (Gx (Pt G (Me (.bool true) (Gx (Gx (Gx (Gx (Gx (Gx (Gx (Pt G (Ae (.bool true) (Ni (Sr ?_))))))))))))))))))))))
    refine Fa G fo98_1 (Le (B3.cell (j := 1) G) ?_)
    have B9 := (hL.ext n4.ext).mod mm d2
    refine WL.storeB (v := .int .i64 s.2) G G G sz3 B9 (Nat.le_of_ble_eq_true G) ?_
    intro ws10 ms10 bs10 zs10
    refine Ni (Sr (Me (.bool true) (Ae (.bool true) (Ni (WC.ret ?_)))))
    have hfin : ((.bool true) : Value) = Value.bool (!symOk I.words.length ns last s) := congrArg Value.bool (by rw [symOk_not _ _ _ _ _ hmem]; clear hn hL hB hR hM hC dw hm hmem; simp only [hcc] at *; simp only [*, Bool.true_or, Bool.or_true, Bool.false_or, Bool.or_false])
    exact ⟨_, Ro G G, hfin, Mt (Mt (Mod.ext n4.ext) (mm.imp (fun _ _ h => Or.inl h))) (ms10.imp (fun _ _ h => Or.inr h)), hm.mod ms10 (fun e => d2 e.symm), bs10⟩
   ·refine Gy hg29 (Fa G fo98_1 (Gy hg29 (Le (B3.cell (j := 1) G) (Gy hg29 ?_))))
    have B11 := (hL.ext n4.ext).mod mm d2
    refine Le (B11.cell (j := 0) G) (Gy hg29 (Bn G G BinR.leq (Qf hg29 G (Me (.bool (decide ((s.2 : Int) ≤ (last : Int)))) ?_))))
    rcases Bool.eq_false_or_eq_true (decide ((s.2 : Int) ≤ (last : Int))) with hg35 | hg35
    ·refine Gz hg35 (Gz hg35 (Gz hg35 (Gz hg35 (Qt hg35 G (Me (.bool true) (Gx (Gx (Gx (Gx (Gx (Gx (Gx (Pt G (Ae (.bool true) (Ni (Sr (Fa G fo98_1 (Le (B3.cell (j := 1) G) (WL.storeB (v := .int .i64 s.2) G G G sz3 B11 (Nat.le_of_ble_eq_true G) ?_)))))))))))))))))))
     intro ws12 ms12 bs12 zs12
     refine Ni (Sr (Me (.bool true) (Ae (.bool true) (Ni (WC.ret ?_)))))
     have hfin : ((.bool true) : Value) = Value.bool (!symOk I.words.length ns last s) := congrArg Value.bool (by rw [symOk_not _ _ _ _ _ hmem]; clear hn hL hB hR hM hC dw hm hmem; simp only [hcc] at *; simp only [*, Bool.true_or, Bool.or_true, Bool.false_or, Bool.or_false])
     exact ⟨_, Ro G G, hfin, Mt (Mt (Mod.ext n4.ext) (mm.imp (fun _ _ h => Or.inl h))) (ms12.imp (fun _ _ h => Or.inr h)), hm.mod ms12 (fun e => d2 e.symm), bs12⟩
    ·refine Gy hg35 (Fa G fo98_1 (Gy hg35 (Le (B3.cell (j := 1) G) (Gy hg35 (Bn G G (BinR.remI (by have := of_decide_eq_false hg35; omega) (by decide)) (Gy hg35 (Bn G G BinR.neq (Qf hg35 G (Me (.bool (((s.2 % 4 : Int) != (0 : Int)))) ?_)))))))))
     rcases Bool.eq_false_or_eq_true (((s.2 % 4 : Int) != (0 : Int))) with hg41 | hg41
     ·refine Gz hg41 (Gz hg41 (Gz hg41 (Gz hg41 (Gz hg41 (Gz hg41 (Gz hg41 (Qt hg41 G (Ae (.bool true) (Ni (Sr (Fa G fo98_1 (Le (B3.cell (j := 1) G) (WL.storeB (v := .int .i64 s.2) G G G sz3 B11 (Nat.le_of_ble_eq_true G) ?_)))))))))))))
      intro ws13 ms13 bs13 zs13
      refine Ni (Sr (Me (.bool true) (Ae (.bool true) (Ni (WC.ret ?_)))))
      have hfin : ((.bool true) : Value) = Value.bool (!symOk I.words.length ns last s) := congrArg Value.bool (by rw [symOk_not _ _ _ _ _ hmem]; clear hn hL hB hR hM hC dw hm hmem; simp only [hcc] at *; simp only [*, Bool.true_or, Bool.or_true, Bool.false_or, Bool.or_false])
      exact ⟨_, Ro G G, hfin, Mt (Mt (Mod.ext n4.ext) (mm.imp (fun _ _ h => Or.inl h))) (ms13.imp (fun _ _ h => Or.inr h)), hm.mod ms13 (fun e => d2 e.symm), bs13⟩
     ·refine Gy hg41 (Fa G fo98_1 (Gy hg41 (Le (B3.cell (j := 1) G) (Gy hg41 (Fa G fo25_2 (Gy hg41 ?_))))))
      have B14 := (hB.ext n4.ext).mod mm d3
      refine Le (B14.cell (j := 2) G) (Gy hg41 ?_)
      have S15 := (hR.w.ext' n4.ext).modp mm (fun h0 g hg e => (dw h0 g hg).1 e)
      refine WL.lenSl (sz := 1) (m := I.words.length) (xs := wordCells I.words) el23 G S15 G (Gy hg41 (Bn G G (BinR.mulN (a := 4) (b := I.words.length) (by omega)) (Gy hg41 (Bn G G BinR.geq (Qf hg41 G (Ae (.bool (decide ((((4 * I.words.length) : Nat) : Int) ≤ (s.2 : Int)))) (Ni (Sr (Fa G fo98_1 (Le (B3.cell (j := 1) G) (WL.storeB (v := .int .i64 s.2) G G G sz3 B11 (Nat.le_of_ble_eq_true G) ?_)))))))))))
      intro ws16 ms16 bs16 zs16
      refine Ni (Sr (Me (.bool (decide ((((4 * I.words.length) : Nat) : Int) ≤ (s.2 : Int)))) (Ae (.bool (decide ((((4 * I.words.length) : Nat) : Int) ≤ (s.2 : Int)))) (Ni (WC.ret ?_)))))
      have hfin : ((.bool (decide ((((4 * I.words.length) : Nat) : Int) ≤ (s.2 : Int)))) : Value) = Value.bool (!symOk I.words.length ns last s) := congrArg Value.bool (by rw [symOk_not _ _ _ _ _ hmem]; clear hn hL hB hR hM hC dw hm hmem; simp only [hcc] at *; simp only [*, Bool.true_or, Bool.or_true, Bool.false_or, Bool.or_false])
      exact ⟨_, Ro G G, hfin, Mt (Mt (Mod.ext n4.ext) (mm.imp (fun _ _ h => Or.inl h))) (ms16.imp (fun _ _ h => Or.inr h)), hm.mod ms16 (fun e => d2 e.symm), bs16⟩
end Go.Proofs.R
end
section
set_option linter.unusedSimpArgs false
set_option linter.unusedVariables false
namespace Go.Proofs.R
open Go Go.Ux Go.Ux.Image Go.Proofs
open Tryz
theorem ag98 : isAggT prog 98 = some true := by kernel_rfl
theorem ca54 : callable prog 54 = true := by kernel_rfl
theorem symsOk_drop (nw : Nat) (ns : List (List UInt8)) (last : Int) (l : List (List UInt8 × Int)) (j : Nat) (h : j < l.length) : symsOk nw ns last (l.drop j) = (symOk nw ns last l[j] && symsOk nw ((l[j]).1 :: ns) (l[j]).2 (l.drop (j + 1))) := by
 rw [List.drop_eq_getElem_cons h]; rfl
theorem symOk_last {nw : Nat} {ns : List (List UInt8)} {last : Int} {s : List UInt8 × Int} (h : symOk nw ns last s = true) : last < s.2 := by
 simp only [symOk, Bool.and_eq_true, decide_eq_true_eq] at h; omega
theorem index_wrong (bn bl r bm : Nat) (sv wv : Value) (I : Img) (w : World) (hn : Blk w bn #[.map (some r)] 128) (hL : Blk w bl #[.int .i64 (-1)] 3) (hB : Blk w bm #[.int .i64 I.entry, sv, wv] 25) (hR : Rep w sv wv I) (hM : MapS w r []) (d1 : bn ≠ r) (d2 : bl ≠ r) (d3 : bm ≠ r) (d4 : bn ≠ bl) (d5 : bm ≠ bl) (ds : 0 < I.syms.length → ∀ g, sv.ownBlock = some g → g ≠ r ∧ g ≠ bl) (dw : 0 < I.words.length → ∀ g, wv.ownBlock = some g → g ≠ r ∧ g ≠ bl) (hN : ∀ s ∈ I.syms, True ∧ s.2 ≤ 9223372036854775807) : CallsR prog 89 #[sv, .func (.func 54) #[] #[ptr bn 0, ptr bl 0, ptr bm 0]] w (fun v w' => ∃ z : Int, v = .int .i64 z ∧ decide (0 ≤ z) = (!right5 I) ∧ Mod (fun k => k = r ∨ k = bl) w w') := by
 have hI1 := hR.ls
 have hI2 := hR.lw
 refine Co func89 G G ?_
 refine Sr (Ae (IN 0) (Ni (Sq (Sr (Me sv (WL.lenSl (sz := 2) (m := I.syms.length) (xs := symCells I.syms) el22 G hR.s G (Me (IN 0) (Ni (Bk ?_)))))))))
 refine WC.loop (fun k f w_ => ∃ j ls ns last, (k + j = I.syms.length) ∧ (ns.length = j) ∧ (-1 ≤ last) ∧ (Cnt ls ns) ∧ (right5 I = symsOk I.words.length ns last (I.syms.drop j)) ∧ f 0 = sv ∧ f 1 = .func (.func 54) #[] #[ptr bn 0, ptr bl 0, ptr bm 0] ∧ f 6 = sv ∧ f 7 = IN I.syms.length ∧ f 8 = IN j ∧ (Mod (fun k => k = r ∨ k = bl) w w_) ∧ (Blk w_ bn #[.map (some r)] 128) ∧ (Blk w_ bl #[.int .i64 last] 3) ∧ (Blk w_ bm #[.int .i64 I.entry, sv, wv] 25) ∧ (MapS w_ r ls)) I.syms.length ?_ ?_
 ·exact ⟨0, ([]), ([]), (-1), by omega, G, by decide, fun k => by simp [cnt], rfl, rfl, rfl, rfl, rfl, rfl, Mod.refl _ _, hn, hL, hB, hM⟩
 rintro k f1 wr ⟨j, ls, ns, last, hk1, hj0, hlast, hC, hs, h0_1, h1_1, h6_1, h7_1, h8_1, hE, hn2, hL2, hB2, hM2⟩
 refine Sr (Bn h8_1 h7_1 BinR.lss (Ni (Sq ?_)))
 refine WC.cond G (fun hc9 => ?_) (fun hc9 => ?_)
 ·have hj : j < I.syms.length := by have := of_decide_eq_true hc9; omega
  have hRc := hR.mod hE (fun h0 b hb e => e.elim (ds h0 b hb).1 (ds h0 b hb).2) (fun h0 b hb e => e.elim (dw h0 b hb).1 (dw h0 b hb).2)
  obtain ⟨bs0, os0, cs0, es0, hcs0⟩ := hRc.s.at (by omega)
  refine WC.skip (Sq (Bk (Sr (Mv (IN j) h8_1 (Ae (IN j) (Ni (Sr (Mv (.func (.func 54) #[] #[ptr bn 0, ptr bl 0, ptr bm 0]) h1_1 (Mv sv h0_1 (Me (IN j) (WL.indexAddr (i := j) (b := bs0) (o := os0) el22 sz98 (Eq.trans G es0) G (by omega) G (WL.loadS [St (I.syms[j]).1, .int .i64 ((I.syms[j]).2)] G ag98 sz98 G (cells2 hcs0 ((symCells_get I.syms j (by omega))).1 ((symCells_get I.syms j (by omega))).2) G (WL.callV (fs := #[]) (cs := #[ptr bn 0, ptr bl 0, ptr bm 0]) G ca54 G G (wrong_spec (I.syms[j]) ls ns last bn bl r bm sv wv I _ hn2 hL2 hB2 hRc hM2 hC hlast (by omega) (hN _ (List.getElem_mem _)).2 d1 d2 d3 d4 d5 dw trivial) ?_)))))))))))))
  rintro _ wd ⟨rfl, md, Md, Ld⟩
  refine Ni ?_
  refine WC.cond G (fun hc16 => ?_) (fun hc16 => ?_)
  ·have hbad : symOk I.words.length ns last (I.syms[j]) = false := by simpa using hc16
   have hres : decide ((0 : Int) ≤ ((j : Nat) : Int)) = (!right5 I) := by rw [hs, symsOk_drop _ _ _ _ j hj, hbad]; simp
   have hEE := hE.trans md
   refine Sr (Me (IN j) (Ae (IN j) (Ni (WC.ret ?_))))
   exact ⟨_, Ro G G, _, G, hres, hEE⟩
  ·have hok : symOk I.words.length ns last (I.syms[j]) = true := by simpa using hc16
   refine WC.skip (Rg (Bn h8_1 G (BinR.succN (by omega)) (Me (IN (j + 1)) (Ni ?_))))
   exact ⟨k - 1, by omega, (j + 1), _, ((I.syms[j]).1 :: ns), ((I.syms[j]).2), by omega, by simp [hj0], by have := symOk_last hok; omega, hC.next _, by rw [hs, symsOk_drop _ _ _ _ j hj, hok]; rfl, h0_1, h1_1, h6_1, h7_1, rfl, hE.trans md, hn2.mod md (fun e => e.elim d1 d4), Ld, hB2.mod md (fun e => e.elim d3 d5), Md⟩
 ·have hj : I.syms.length ≤ j := by have := of_decide_eq_false hc9; omega
  have hres : decide ((0 : Int) ≤ -1) = (!right5 I) := by rw [hs, List.drop_of_length_le hj]; rfl
  have hEE := hE
  refine WC.exit (Sr (Ae (.int .i64 (-1)) (Ni (WC.ret ?_))))
  exact ⟨_, Ro G G, _, G, hres, hEE⟩
end Go.Proofs.R
end
