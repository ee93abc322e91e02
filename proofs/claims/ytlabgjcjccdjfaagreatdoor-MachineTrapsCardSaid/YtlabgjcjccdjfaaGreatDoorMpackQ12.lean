/- Steps of the proof, packed by program: McT7 UxEv McT8 McL1 McK1 McIn McTr McRef McN1. -/
import Derived.Test.YtlabgjcjccdjfaaGreatDoorRows
import Derived.Test.YtlabgjcjccdjfaaGreatDoorMpackQ02
import Derived.Test.YtlabgjcjccdjfaaGreatDoorMpackQ11
set_option linter.unusedVariables false
set_option linter.unusedSimpArgs false
set_option linter.unnecessarySimpa false
section
set_option linter.unusedSimpArgs false
set_option linter.unusedVariables false
namespace Go.Proofs.S
open Go Go.Ux Go.Ux.Mach Go.Proofs
theorem ag25 : isAggT Tryz.prog 25 = some true := by kernel_rfl
theorem sz25 : sizeT Tryz.prog 25 = some 3 := by kernel_rfl
theorem ca30 : callable Tryz.prog 30 = true := by kernel_rfl
theorem ca31 : callable Tryz.prog 31 = true := by kernel_rfl
theorem bld10_16 (a : Option Addr) (n c : Nat) : ∀ w : World, (Instr.build 85 #[(2, .slice a n c), (4, U64 (65536#64))]).run Tryz.prog w = .ok (.agg #[.slice none 0 0, .slice none 0 0, .slice a n c, .int .u64 (0), .int .u64 (0), .int .u64 (0), .int .u64 (0), .int .u64 (0), .int .u64 (0), .int .u64 (0), .int .u64 (0), .int .u64 (0), .int .u64 (0), .int .u64 (0), .int .u64 (0), .int .u64 (0), .int .u64 (0), .int .u64 (0), .int .u64 (0), .int .u64 (0), .int .u64 (0), .int .u64 (0), .int .u64 (0), .int .u64 (0), .int .u64 (0), .int .u64 (0), .int .u64 (0), .int .u64 (0), .int .u64 (0), .int .u64 (0), .int .u64 (0), .int .u64 (0), .int .u64 (0), .int .u64 (0), .int .u64 (0), U64 (65536#64), .slice none 0 0, .nilIface, IN (0)]) w := fun _ => by kernel_rfl
theorem fo25_2 : fieldOff Tryz.prog 25 2 = some 2 := by kernel_rfl
theorem ag23 : isAggT Tryz.prog 23 = some false := by kernel_rfl
theorem el23 : elemT Tryz.prog 23 = some 50 := by kernel_rfl
theorem ca32 : callable Tryz.prog 32 = true := by kernel_rfl
theorem bld10_43 (p q r s : BitVec 8) (x : BitVec 64) (k : Bool) : ∀ w : World, (Instr.build 89 #[(0, .agg #[U8 (p), U8 (q), U8 (r), U8 (s), I64 (x)]), (1, .bool (k))]).run Tryz.prog w = .ok (.agg #[U8 (p), U8 (q), U8 (r), U8 (s), I64 (x), .bool (k)]) w := fun _ => by kernel_rfl
theorem bls10_44 (p q r s : BitVec 8) (x : BitVec 64) (k : Bool) : ∀ w : World, (Instr.buildSlice 81 1 #[(0, .agg #[U8 (p), U8 (q), U8 (r), U8 (s), I64 (x), .bool (k)])]).run Tryz.prog w = .ok (.slice (some ⟨w.heap.size, 0, none⟩) 1 1) (w.alloc (.cells #[U8 (p), U8 (q), U8 (r), U8 (s), I64 (x), .bool (k)] 89)) := fun _ => by kernel_rfl
theorem ap81 : appT Tryz.prog 81 = some (89, 6, 24, #[.int .u8 0, .int .u8 0, .int .u8 0, .int .u8 0, .int .i64 0, .bool false]) := by kernel_rfl
theorem sz81 : sizeT Tryz.prog 81 = some 1 := by kernel_rfl
theorem fo25_0 : fieldOff Tryz.prog 25 0 = some 0 := by kernel_rfl
theorem ap45 : appT Tryz.prog 45 = some (5, 1, 1, #[.int .u8 0]) := by kernel_rfl
theorem bld10_53 (b n : Nat) : ∀ w : World, (Instr.build 91 #[(0, U64 (4194304#64)), (1, .slice (some ⟨b, 0, none⟩) n n)]).run Tryz.prog w = .ok (.agg #[U64 (4194304#64), .slice (some ⟨b, 0, none⟩) n n]) w := fun _ => by kernel_rfl
theorem bld10_55 (b n : Nat) : ∀ w : World, (Instr.build 91 #[(0, U64 (8323072#64)), (1, .slice (some ⟨b, 0, none⟩) n n)]).run Tryz.prog w = .ok (.agg #[U64 (8323072#64), .slice (some ⟨b, 0, none⟩) n n]) w := fun _ => by kernel_rfl
theorem bls10_56 (a b n m : Nat) : ∀ w : World, (Instr.buildSlice 80 2 #[(0, .agg #[U64 (4194304#64), .slice (some ⟨a, 0, none⟩) n n]), (1, .agg #[U64 (8323072#64), .slice (some ⟨b, 0, none⟩) m m])]).run Tryz.prog w = .ok (.slice (some ⟨w.heap.size, 0, none⟩) 2 2) (w.alloc (.cells #[U64 (4194304#64), .slice (some ⟨a, 0, none⟩) n n, U64 (8323072#64), .slice (some ⟨b, 0, none⟩) m m] 91)) := fun _ => by kernel_rfl
theorem sz80 : sizeT Tryz.prog 80 = some 1 := by kernel_rfl
open Go.Proofs.M (instV Glob findRow decodeAt decode_no decode_ok)
open Go.Ux.Image
def decI (x : BitVec 32) : RvInst := match findRow x tableD with
  | some i => decodeAt i x
  | none => ⟨0, 0, 0, 0, 0⟩
def decE (x : BitVec 32) : Nat := match findRow x tableD with
  | some _ => 0
  | none => 100
theorem decode_spec (x : BitVec 32) (w : World) (hG : Glob w) : CallsR Tryz.prog 32 #[U32 x] w (fun v w' => v = .tuple #[instV (decI x), IN (decE x)] ∧ Ext w w') := by
  unfold decI decE
  rcases h : findRow x tableD with _ | i
  · exact decode_no x w hG h
  · exact decode_ok x w hG i h
def decW (x : BitVec 32) : RvInst × Bool := (decI x, (((decE x : Nat) : Int) == (0 : Int)) && ((decI x).op != 65#8))
theorem decW_T {x : BitVec 32} (h : (((decE x : Nat) : Int) == (0 : Int)) = true) : (decW x).2 = ((decI x).op != 65#8) := by unfold decW; rw [h]; rfl
theorem decW_F {x : BitVec 32} (h : (((decE x : Nat) : Int) == (0 : Int)) = false) : (decW x).2 = false := by unfold decW; rw [h]; rfl
theorem codeV_take (l : List (BitVec 32)) (i : Nat) (h : i < l.length) : codeV ((l.take (i + 1)).map decW) = codeV ((l.take i).map decW) ++ [U8 (decI l[i]).op, U8 (decI l[i]).rd, U8 (decI l[i]).rs1, U8 (decI l[i]).rs2, I64 (decI l[i]).imm, .bool (decW l[i]).2] := by
  rw [List.take_succ_eq_append_getElem h, List.map_append]
  exact codeV_snoc _ _
def newM (I : Img) (inp : List (BitVec 64)) : MS := { n := I.entry.toNat, d := fun _ => 0#8, s := fun _ => 0#8, code := I.words.map decW, input := inp, x := fun i => if i = 2 then 8388608#64 else 0#64, pc := 65536#64, events := [], fin := none, steps := 0#64 }
theorem word_get (l : List (BitVec 32)) (i : Nat) (h : i < l.length) : (wordCells l)[i]? = some (U32 l[i]) := by simp [wordCells, h]
theorem right_facts {I : Img} (h : rightB I = true) : 0 ≤ I.entry ∧ I.entry ≤ 524288 ∧ I.words.length ≤ 262144 := by
  simp only [rightB, right2, right3, Bool.and_eq_true, decide_eq_true_eq] at h
  exact ⟨h.1.1.1.1.1, h.1.1.1.1.2, h.1.1.2.2⟩
theorem ones_I64 (l : List (BitVec 64)) : ∀ u ∈ l.map I64, u.oneCell' = true := by
  intro u hu; obtain ⟨x, _, rfl⟩ := List.mem_map.1 hu; rfl
theorem locB {w : World} {v v' : Value} {b n : Nat} (h : LocV w v v') (hB : ∀ g, v.ownBlock = some g → b < g ∧ g < n) (hb : b < w.heap.size) : ∀ g, v'.ownBlock = some g → b < g := fun g hg => by
  rcases h with h | ⟨g', h, hg'⟩
  · rw [h] at hg; exact (hB g hg).1
  · rw [h] at hg; cases hg; omega
theorem new_mr {w' : World} {b17 b56 b52 b54 n0 : Nat} {cvv iv : Value} {I : Img} {inp : List (BitVec 64)}
    (hb : Blk w' b17 (machCells (.slice (some ⟨b56, 0, none⟩) 2 2) cvv iv (newM I inp).x 65536#64 (.slice none 0 0) .nilIface 0#64) 85)
    (hm : Blk w' b56 #[U64 4194304#64, .slice (some ⟨b52, 0, none⟩) I.entry.toNat I.entry.toNat, U64 8323072#64, .slice (some ⟨b54, 0, none⟩) 65536 65536] 91)
    (hd : Ux.Own w' 1 (.slice (some ⟨b52, 0, none⟩) I.entry.toNat I.entry.toNat) I.entry.toNat (List.replicate I.entry.toNat (.int .u8 0))) (hs : Ux.Own w' 1 (.slice (some ⟨b54, 0, none⟩) 65536 65536) 65536 (List.replicate 65536 (.int .u8 0)))
    (hc : Ux.Own w' 6 cvv I.words.length (codeV (I.words.map decW))) (hi : Ux.Own w' 1 iv inp.length (inp.map I64))
    (k1 : ∀ g, iv.ownBlock = some g → g < b17) (k2 : ∀ g, cvv.ownBlock = some g → b17 < g) (k2a : ∀ g, cvv.ownBlock = some g → g < b52) (k2b : ∀ g, cvv.ownBlock = some g → g < b54) (k3 : b17 < b52) (k4 : b17 < b54) (k5 : b52 ≠ b54) (k6 : b52 < b56 ∧ b54 < b56)
    (h0 : n0 ≤ b17) (hiF : From n0 iv) (h6 : 6 ≤ n0) (hmle : I.entry.toNat ≤ 524288) : ∃ T, MR T w' b17 (newM I inp) ∧ ∀ k, T k ≠ 0 → n0 ≤ k := by
  have hlb := hb.lt
  have hlm := hm.lt
  have hcl : (newM I inp).code.length = I.words.length := by simp [newM]
  have sd : ∀ g, (Value.slice (some ⟨b52, 0, none⟩) I.entry.toNat I.entry.toNat).ownBlock = some g → g = b52 := fun g e => (Option.some.inj e).symm
  have ss : ∀ g, (Value.slice (some ⟨b54, 0, none⟩) 65536 65536).ownBlock = some g → g = b54 := fun g e => (Option.some.inj e).symm
  refine ⟨fun k => if k = b17 then 1 else if k = b56 then 2 else if k = b52 then 3 else if k = b54 then 4 else if cvv.ownBlock = some k then 5 else if iv.ownBlock = some k then 6 else 0, ⟨b56, _, _, cvv, iv, _, _, hb, hm, ?_, ?_, ?_, hi.sl, Ux.Own.nil _ _, rfl, ?_, ?_, ?_, ?_, ?_, ?_, ?_, ?_, ?_, ?_⟩, ?_⟩
  · have := bsV_zero I.entry.toNat; rw [this] at hd; exact hd
  · have := bsV_zero 65536; rw [this] at hs; exact hs
  · rw [hcl]; exact hc.sl
  · exact if_pos rfl
  · exact (if_neg (by omega)).trans (if_pos rfl)
  · intro g e; have := sd g e; subst this; exact (if_neg (by omega)).trans ((if_neg (by omega)).trans (if_pos rfl))
  · intro g e; have := ss g e; subst this; exact (if_neg (by omega)).trans ((if_neg (by omega)).trans ((if_neg (by omega)).trans (if_pos rfl)))
  · intro g e; have h1 := k2 g e; have h2 := k2a g e; have h3 := k2b g e; exact (if_neg (by omega)).trans ((if_neg (by omega)).trans ((if_neg (by omega)).trans ((if_neg (by omega)).trans (if_pos e))))
  · intro g e
    have h1 := k1 g e
    have hne : ¬ cvv.ownBlock = some g := fun e' => by have := k2 g e'; omega
    exact (if_neg (by omega)).trans ((if_neg (by omega)).trans ((if_neg (by omega)).trans ((if_neg (by omega)).trans ((if_neg hne).trans (if_pos e)))))
  · intro g e; cases e
  · intro g e; cases e
  · intro k hk
    try dsimp only at hk
    split at hk; · omega
    split at hk; · omega
    split at hk; · omega
    split at hk; · omega
    split at hk
    · rename_i e; have := k2 k e; have := k2a k e; omega
    split at hk
    · rename_i e; have := k1 k e; have := hiF k e; omega
    · exact absurd rfl hk
  · show I.entry.toNat ≤ 140737488355328; omega
  · intro k hk
    try dsimp only at hk
    split at hk; · omega
    split at hk; · omega
    split at hk; · omega
    split at hk; · omega
    split at hk
    · rename_i e; have := k2 k e; omega
    split at hk
    · rename_i e; exact hiF k e
    · exact absurd rfl hk
set_option maxRecDepth 100000 in
set_option maxHeartbeats 1000000 in
theorem new_ok (I : Img) (sv wv iv0 : Value) (inp : List (BitVec 64)) (w : World) (hR : Rep w sv wv I) (hN : ∀ s ∈ I.syms, True ∧ s.2 ≤ 9223372036854775807) (hG : Glob w) (h6 : 6 ≤ w.heap.size) (hI : Sl w iv0 1 inp.length (inp.map I64)) (hIf : iv0 = .slice none 0 0 ∨ ∃ a c, iv0 = .slice (some a) inp.length c) (hIl : inp.length ≤ 8796093022208) (hr : rightB I = true) : CallsR Tryz.prog 10 #[.agg #[.int .i64 (I.entry), sv, wv], iv0] w (fun v w' => ∃ T b, v = .tuple #[ptr b 0, IN 0] ∧ MR T w' b (newM I inp) ∧ (∀ k, T k ≠ 0 → w.heap.size ≤ k) ∧ Ext w w') := by
  obtain ⟨hr1, hr2, hr3⟩ := right_facts hr
  have hent : Value.int .i64 I.entry = IN I.entry.toNat := by show Value.int .i64 I.entry = Value.int .i64 ((I.entry.toNat : Nat) : Int); congr 1; omega
  refine callsR_of Tryz.func10 rfl rfl rfl ?_
  refine WC.seq (WC.region (WL.box (v := .agg #[.int .i64 (I.entry), sv, wv]) rfl rfl ?_))
  intro b2 w2 n2
  have E1 : Ext w w2 := Mod.trans (Mod.refl _ _) (n2.ext)
  refine WL.assign (v := .pointer none) rfl rfl (WL.assign (v := IN (0)) rfl rfl (WL.nil (WC.seq (WC.seq (WC.region (WL.loadS [.int .i64 (I.entry), sv, wv] rfl ag25 sz25 rfl (n2.blk.sub (o := 0) (vs := [.int .i64 (I.entry), sv, wv]) rfl) rfl (WL.call ca30 (rfl) rfl (Go.Proofs.R.right_spec sv wv I _ (hR.ext (E1)) hN) ?_)))))))
  rintro _ wri ⟨rfl, eri⟩
  rw [hr]
  have E2 : Ext w wri := Mod.trans (E1) (eri)
  refine WL.un rfl rfl UnR.not (WL.nil (WC.condF rfl (WC.skip (WC.seq (WC.region (WL.move (v := iv0) rfl rfl (WL.call ca31 (rfl) rfl (clone31 iv0 inp.length (inp.map I64) _ (hI.ext (E2)) hIf (ones_I64 _) hIl) ?_)))))))
  rintro _ wcl ⟨hc1, hc2, hc4, ecl⟩
  obtain ⟨ia, il, ic, rfl⟩ := hc1.sl.slc
  have hivF : From w.heap.size (.slice ia il ic) := fun g hg => Nat.le_trans (Mod.size (E2)) (hc2 g hg)
  have E3 : Ext w wcl := Mod.trans (E2) (ecl)
  refine WL.build (v := .agg #[.slice none 0 0, .slice none 0 0, .slice ia il ic, .int .u64 (0), .int .u64 (0), .int .u64 (0), .int .u64 (0), .int .u64 (0), .int .u64 (0), .int .u64 (0), .int .u64 (0), .int .u64 (0), .int .u64 (0), .int .u64 (0), .int .u64 (0), .int .u64 (0), .int .u64 (0), .int .u64 (0), .int .u64 (0), .int .u64 (0), .int .u64 (0), .int .u64 (0), .int .u64 (0), .int .u64 (0), .int .u64 (0), .int .u64 (0), .int .u64 (0), .int .u64 (0), .int .u64 (0), .int .u64 (0), .int .u64 (0), .int .u64 (0), .int .u64 (0), .int .u64 (0), .int .u64 (0), U64 (65536#64), .slice none 0 0, .nilIface, IN (0)]) (vs := [(2, .slice ia il ic), (4, U64 (65536#64))]) rfl (bld10_16 ia il ic) rfl ?_
  have B4 := ((n2.blk).ext (eri)).ext (ecl)
  refine WL.box (v := .agg #[.slice none 0 0, .slice none 0 0, .slice ia il ic, .int .u64 (0), .int .u64 (0), .int .u64 (0), .int .u64 (0), .int .u64 (0), .int .u64 (0), .int .u64 (0), .int .u64 (0), .int .u64 (0), .int .u64 (0), .int .u64 (0), .int .u64 (0), .int .u64 (0), .int .u64 (0), .int .u64 (0), .int .u64 (0), .int .u64 (0), .int .u64 (0), .int .u64 (0), .int .u64 (0), .int .u64 (0), .int .u64 (0), .int .u64 (0), .int .u64 (0), .int .u64 (0), .int .u64 (0), .int .u64 (0), .int .u64 (0), .int .u64 (0), .int .u64 (0), .int .u64 (0), .int .u64 (0), U64 (65536#64), .slice none 0 0, .nilIface, IN (0)]) rfl rfl ?_
  intro b17 w17 n17
  have E5 : Ext w w17 := Mod.trans (E3) (n17.ext)
  have hbb : w.heap.size ≤ b17 := by have := n17.num; have := Mod.size (E3); omega
  have hivb : ∀ g, (.slice ia il ic : Value).ownBlock = some g → g < b17 := fun g hg => by have := hc4 g hg; have := n17.num; omega
  have hb2 : b2 < b17 := by have := (B4).lt; have := n17.num; omega
  refine WL.assign (v := ptr b17 0) rfl rfl (WL.nil (WC.seq (WC.seq (WC.region (WL.fieldAddr rfl fo25_2 rfl ?_)))))
  have B6 := (B4).ext (n17.ext)
  refine WL.load1 rfl ag23 (B6.cell (j := 2) rfl) rfl (WL.lenSl (sz := 1) (m := I.words.length) (xs := wordCells I.words) el23 rfl ((hR.w).ext' (E5)) rfl (WL.move (v := IN (0)) rfl rfl (WL.nil ?_)))
  have O7 := (hc1).ext (n17.ext)
  have hIV0 := O7
  refine WC.block ?_
  refine WC.loop (fun k f w_ => ∃ i cvv, (k + i = I.words.length) ∧ f 0 = .agg #[.int .i64 (I.entry), sv, wv] ∧ f 1 = iv0 ∧ f 2 = ptr b2 0 ∧ f 6 = ptr b17 0 ∧ f 19 = wv ∧ f 20 = IN (I.words.length) ∧ f 21 = IN (i) ∧ (Ux.Own w_ 1 (.slice ia il ic) inp.length (inp.map I64)) ∧ (Ux.Own w_ 6 cvv i (codeV ((I.words.take i).map decW))) ∧ (∀ g, cvv.ownBlock = some g → b17 < g ∧ g < w_.heap.size) ∧ (Blk w_ b17 #[.slice none 0 0, cvv, .slice ia il ic, U64 (0#64), U64 (0#64), U64 (0#64), U64 (0#64), U64 (0#64), U64 (0#64), U64 (0#64), U64 (0#64), U64 (0#64), U64 (0#64), U64 (0#64), U64 (0#64), U64 (0#64), U64 (0#64), U64 (0#64), U64 (0#64), U64 (0#64), U64 (0#64), U64 (0#64), U64 (0#64), U64 (0#64), U64 (0#64), U64 (0#64), U64 (0#64), U64 (0#64), U64 (0#64), U64 (0#64), U64 (0#64), U64 (0#64), U64 (0#64), U64 (0#64), U64 (0#64), U64 (65536#64), .slice none 0 0, .nilIface, .int .i64 (0)] 85) ∧ (Blk w_ b2 #[.int .i64 (I.entry), sv, wv] 25) ∧ (Ext w w_)) (I.words.length) ?_ ?_
  · exact ⟨(0), (.slice none 0 0), by omega, rfl, rfl, rfl, rfl, rfl, rfl, rfl, hIV0, Ux.Own.nil _ _, (fun g hg => by cases hg), n17.blk, B6, E5⟩
  rintro ka f1 wr ⟨i, cvv, hk, h0_1, h1_1, h2_1, h6_1, h19_1, h20_1, h21_1, hIV, hO, hB, h17, h2, hE⟩
  refine WC.seq (WC.region (WL.bin h21_1 h20_1 rfl (BinR.lss) (WL.nil (WC.seq ?_))))
  refine WC.cond rfl (fun hc22 => ?_) (fun hc22 => ?_)
  · have hi : i < I.words.length := by have := of_decide_eq_true hc22; omega
    refine WC.skip (WC.seq (WC.block (WC.seq (WC.region (WL.indexSl (sz := 1) (m := I.words.length) (xs := wordCells I.words) (i := i) el23 sz50 h19_1 h21_1 (by omega) ((hR.w).ext' (hE)) rfl ?_)))))
    intro b23 o23 hb23 hc23
    refine WL.load1 rfl ag50 (by rw [Nat.mul_one]; exact hc23 i _ (word_get I.words i hi)) rfl (WL.assign (v := U32 (I.words[i])) rfl rfl (WL.nil (WC.seq (WC.region (WL.move (v := U32 (I.words[i])) rfl rfl (WL.call ca32 (rfl) rfl (decode_spec I.words[i] _ (hG.ext (hE))) ?_))))))
    rintro _ wde ⟨rfl, ede⟩
    have R8 : Ext wr wde := Mod.trans (Mod.refl _ _) (ede)
    have E9 : Ext w wde := Mod.trans (hE) (ede)
    refine WL.move (v := .tuple #[instV (decI I.words[i]), IN (decE I.words[i])]) rfl rfl (WL.extract rfl rfl rfl (WL.extract rfl rfl rfl ?_))
    have B10 := (h17).ext (ede)
    have B11 := (h2).ext (ede)
    refine WL.allocStore (v := .agg #[U8 ((decI I.words[i]).op), U8 ((decI I.words[i]).rd), U8 ((decI I.words[i]).rs1), U8 ((decI I.words[i]).rs2), I64 ((decI I.words[i]).imm)]) zt48 rfl sz48 rfl rfl rfl rfl ?_
    intro b9 w9 n9
    have hl_b17_b9 : b17 < b9 := by have := (B10).lt; have := n9.num; omega
    have hl_b2_b9 : b2 < b9 := by have := (B11).lt; have := n9.num; omega
    have E13 : Ext w w9 := Mod.trans (E9) (n9.ext)
    refine WL.assign (v := IN ((decE I.words[i]))) rfl rfl (WL.nil ?_)
    have N9 : cvv.ownBlock ≠ some b9 := fun e => by have := (hB b9 e).2; have := n9.num; have := Mod.size (R8); omega
    have hl9 : b17 < b9 := by have := n9.num; have := Mod.size (R8); have := h17.lt; omega
    rcases Bool.eq_false_or_eq_true (((((decE I.words[i]) : Nat) : Int) == (0 : Int))) with hd8_38 | hd8_38
    · refine WC.drawL (fun w_ => Mod (At cvv) wr w_ ∧ Blk w_ b17 #[.slice none 0 0, cvv, .slice ia il ic, U64 (0#64), U64 (0#64), U64 (0#64), U64 (0#64), U64 (0#64), U64 (0#64), U64 (0#64), U64 (0#64), U64 (0#64), U64 (0#64), U64 (0#64), U64 (0#64), U64 (0#64), U64 (0#64), U64 (0#64), U64 (0#64), U64 (0#64), U64 (0#64), U64 (0#64), U64 (0#64), U64 (0#64), U64 (0#64), U64 (0#64), U64 (0#64), U64 (0#64), U64 (0#64), U64 (0#64), U64 (0#64), U64 (0#64), U64 (0#64), U64 (0#64), U64 (0#64), U64 (65536#64), .slice none 0 0, .nilIface, .int .i64 (0)] 85 ∧ Blk w_ b9 #[U8 ((decI I.words[i]).op), U8 ((decI I.words[i]).rd), U8 ((decI I.words[i]).rs1), U8 ((decI I.words[i]).rs2), I64 ((decI I.words[i]).imm)] 48) 18 19 rfl mixed ?_
      intro wd_8 ed_8
      have E15 : Ext w wd_8 := Mod.trans (E13) (ed_8)
      have B16 := ((B10).ext (n9.ext)).ext (ed_8)
      have B17 := (n9.blk).ext (ed_8)
      refine WAL.take (i := 0) (m' := 1) (v := ptr b17 0) rfl rfl rfl rfl (by kernel_rfl) rfl (fun _ _ _ h => h) (fun wx hS => ?_) (⟨Mod.trans (Mod.trans (Mod.ext (ede)) (Mod.ext (n9.ext))) (Mod.ext (ed_8)), B16, B17⟩) ?_
      · exact WL.move (v := ptr b17 0) h6_1 rfl (WL.nil ⟨rfl, rfl, rfl⟩)
      refine WAL.take (i := 1) (m' := 3) (v := ptr b17 0) rfl rfl rfl rfl (by kernel_rfl) rfl (fun _ _ _ h => h) (fun wx hS => ?_) (⟨Mod.trans (Mod.trans (Mod.ext (ede)) (Mod.ext (n9.ext))) (Mod.ext (ed_8)), B16, B17⟩) ?_
      · exact WL.move (v := ptr b17 0) h6_1 rfl (WL.nil ⟨rfl, rfl, rfl⟩)
      refine WAL.take (i := 2) (m' := 7) (v := ptr b17 0) rfl rfl rfl rfl (by kernel_rfl) rfl (fun _ _ _ h => h) (fun wx hS => ?_) (⟨Mod.trans (Mod.trans (Mod.ext (ede)) (Mod.ext (n9.ext))) (Mod.ext (ed_8)), B16, B17⟩) ?_
      · exact WL.nilCheck rfl rfl (WL.nil ⟨rfl, rfl, rfl⟩)
      refine WAL.take (i := 3) (m' := 15) (v := ptr b17 1) rfl rfl rfl rfl (by kernel_rfl) rfl (fun _ _ _ h => h) (fun wx hS => ?_) (⟨Mod.trans (Mod.trans (Mod.ext (ede)) (Mod.ext (n9.ext))) (Mod.ext (ed_8)), B16, B17⟩) ?_
      · exact WL.fieldAddr rfl fo85_1 rfl (WL.nil ⟨rfl, rfl, rfl⟩)
      refine WAL.take (i := 4) (m' := 31) (v := cvv) rfl rfl rfl rfl (by kernel_rfl) rfl (fun _ _ _ h => h) (fun wx hS => ?_) (⟨Mod.trans (Mod.trans (Mod.ext (ede)) (Mod.ext (n9.ext))) (Mod.ext (ed_8)), B16, B17⟩) ?_
      · exact WL.load1 rfl ag81 (hS.2.1.cell (j := 1) rfl) rfl (WL.nil ⟨rfl, rfl, rfl⟩)
      refine WAL.take (i := 5) (m' := 63) (v := .agg #[U8 ((decI I.words[i]).op), U8 ((decI I.words[i]).rd), U8 ((decI I.words[i]).rs1), U8 ((decI I.words[i]).rs2), I64 ((decI I.words[i]).imm)]) rfl rfl rfl rfl (by kernel_rfl) rfl (fun _ _ _ h => h) (fun wx hS => ?_) (⟨Mod.trans (Mod.trans (Mod.ext (ede)) (Mod.ext (n9.ext))) (Mod.ext (ed_8)), B16, B17⟩) ?_
      · exact WL.loadS [U8 ((decI I.words[i]).op), U8 ((decI I.words[i]).rd), U8 ((decI I.words[i]).rs1), U8 ((decI I.words[i]).rs2), I64 ((decI I.words[i]).imm)] rfl ag48 sz48 rfl (hS.2.2.sub (o := 0) (vs := [U8 ((decI I.words[i]).op), U8 ((decI I.words[i]).rd), U8 ((decI I.words[i]).rs1), U8 ((decI I.words[i]).rs2), I64 ((decI I.words[i]).imm)]) rfl) rfl (WL.nil ⟨rfl, rfl, rfl⟩)
      refine WAL.take (i := 6) (m' := 127) (v := IN ((decE I.words[i]))) rfl rfl rfl rfl (by kernel_rfl) rfl (fun _ _ _ h => h) (fun wx hS => ?_) (⟨Mod.trans (Mod.trans (Mod.ext (ede)) (Mod.ext (n9.ext))) (Mod.ext (ed_8)), B16, B17⟩) ?_
      · exact WL.move (v := IN ((decE I.words[i]))) rfl rfl (WL.nil ⟨rfl, rfl, rfl⟩)
      refine WAL.take (i := 7) (m' := 255) (v := .bool (((((decE I.words[i]) : Nat) : Int) == (0 : Int)))) rfl rfl rfl rfl (by kernel_rfl) rfl (fun _ _ _ h => h) (fun wx hS => ?_) (⟨Mod.trans (Mod.trans (Mod.ext (ede)) (Mod.ext (n9.ext))) (Mod.ext (ed_8)), B16, B17⟩) ?_
      · exact WL.bin rfl rfl rfl (BinR.eql) (WL.nil ⟨rfl, rfl, rfl⟩)
      refine WAL.take (i := 8) (m' := 511) (v := .bool (((((decE I.words[i]) : Nat) : Int) == (0 : Int)))) rfl rfl rfl rfl (by kernel_rfl) rfl (fun _ _ _ h => h) (fun wx hS => ?_) (⟨Mod.trans (Mod.trans (Mod.ext (ede)) (Mod.ext (n9.ext))) (Mod.ext (ed_8)), B16, B17⟩) ?_
      · exact WL.move (v := .bool (((((decE I.words[i]) : Nat) : Int) == (0 : Int)))) rfl rfl (WL.nil ⟨rfl, rfl, rfl⟩)
      refine WAL.take (i := 9) (m' := 1023) (v := ptr b9 0) rfl rfl rfl rfl (by kernel_rfl) rfl (fun _ _ _ h => h) (fun wx hS => ?_) (⟨Mod.trans (Mod.trans (Mod.ext (ede)) (Mod.ext (n9.ext))) (Mod.ext (ed_8)), B16, B17⟩) ?_
      · refine WL.guardT (yf_bool rfl rfl hd8_38) (WL.fieldAddr rfl fo48_0 rfl ?_)
        exact WL.nil ⟨rfl, rfl, rfl⟩
      refine WAL.take (i := 10) (m' := 2047) (v := U8 ((decI I.words[i]).op)) rfl rfl rfl rfl (by kernel_rfl) rfl (fun _ _ _ h => h) (fun wx hS => ?_) (⟨Mod.trans (Mod.trans (Mod.ext (ede)) (Mod.ext (n9.ext))) (Mod.ext (ed_8)), B16, B17⟩) ?_
      · refine WL.guardT (yf_bool rfl rfl hd8_38) (WL.load1 rfl ag5 (hS.2.2.cell (j := 0) rfl) rfl ?_)
        exact WL.nil ⟨rfl, rfl, rfl⟩
      refine WAL.take (i := 11) (m' := 4095) (v := .bool (((decI I.words[i]).op != 65#8))) rfl rfl rfl rfl (by kernel_rfl) rfl (fun _ _ _ h => h) (fun wx hS => ?_) (⟨Mod.trans (Mod.trans (Mod.ext (ede)) (Mod.ext (n9.ext))) (Mod.ext (ed_8)), B16, B17⟩) ?_
      · refine WL.guardT (yf_bool rfl rfl hd8_38) (WL.bin rfl (vy := U8 (65#8)) rfl rfl (BinR.neqU8) ?_)
        exact WL.nil ⟨rfl, rfl, rfl⟩
      refine WAL.take (i := 12) (m' := 8191) (v := .bool (((decI I.words[i]).op != 65#8))) rfl rfl rfl rfl (by kernel_rfl) rfl (fun _ _ _ h => h) (fun wx hS => ?_) (⟨Mod.trans (Mod.trans (Mod.ext (ede)) (Mod.ext (n9.ext))) (Mod.ext (ed_8)), B16, B17⟩) ?_
      · exact WL.pick (b := true) (congrArg Value.bool hd8_38) rfl rfl (WL.nil ⟨rfl, rfl, rfl⟩)
      refine WAL.take (i := 13) (m' := 16383) (v := .agg #[U8 ((decI I.words[i]).op), U8 ((decI I.words[i]).rd), U8 ((decI I.words[i]).rs1), U8 ((decI I.words[i]).rs2), I64 ((decI I.words[i]).imm), .bool (((decI I.words[i]).op != 65#8))]) rfl rfl rfl rfl (by kernel_rfl) rfl (fun _ _ _ h => h) (fun wx hS => ?_) (⟨Mod.trans (Mod.trans (Mod.ext (ede)) (Mod.ext (n9.ext))) (Mod.ext (ed_8)), B16, B17⟩) ?_
      · exact WL.build (v := .agg #[U8 ((decI I.words[i]).op), U8 ((decI I.words[i]).rd), U8 ((decI I.words[i]).rs1), U8 ((decI I.words[i]).rs2), I64 ((decI I.words[i]).imm), .bool (((decI I.words[i]).op != 65#8))]) (vs := [(0, .agg #[U8 ((decI I.words[i]).op), U8 ((decI I.words[i]).rd), U8 ((decI I.words[i]).rs1), U8 ((decI I.words[i]).rs2), I64 ((decI I.words[i]).imm)]), (1, .bool (((decI I.words[i]).op != 65#8)))]) rfl (bld10_43 (decI I.words[i]).op (decI I.words[i]).rd (decI I.words[i]).rs1 (decI I.words[i]).rs2 (decI I.words[i]).imm (((decI I.words[i]).op != 65#8))) rfl (WL.nil ⟨rfl, rfl, rfl⟩)
      refine WAL.one (i := 14) (m' := 32767) (by kernel_rfl) rfl rfl ?_
      refine WL.buildSlice (vs := [(0, .agg #[U8 ((decI I.words[i]).op), U8 ((decI I.words[i]).rd), U8 ((decI I.words[i]).rs1), U8 ((decI I.words[i]).rs2), I64 ((decI I.words[i]).imm), .bool (((decI I.words[i]).op != 65#8))])]) rfl (bls10_44 (decI I.words[i]).op (decI I.words[i]).rd (decI I.words[i]).rs1 (decI I.words[i]).rs2 (decI I.words[i]).imm (((decI I.words[i]).op != 65#8))) rfl ?_
      intro b44 w44 n44
      have E19 : Ext w w44 := Mod.trans (E15) (n44.ext)
      have B20 := (B16).ext (n44.ext)
      have B21 := (B17).ext (n44.ext)
      refine WL.behindS (⟨Mod.trans (Mod.trans (Mod.trans (Mod.ext (ede)) (Mod.ext (n9.ext))) (Mod.ext (ed_8))) (Mod.ext (n44.ext)), B20, B21⟩) ?_
      refine WAL.one (i := 15) (m' := 65535) (by kernel_rfl) rfl rfl ?_
      have hl44 : b17 < w44.heap.size := (B20).lt
      have O22 := ((((hO).ext (ede)).ext (n9.ext)).ext (ed_8)).ext (n44.ext)
      refine WL.append (k := i) (m := 1) (xs := codeV ((I.words.take i).map decW)) (news := [U8 ((decI I.words[i]).op), U8 ((decI I.words[i]).rd), U8 ((decI I.words[i]).rs1), U8 ((decI I.words[i]).rs2), I64 ((decI I.words[i]).imm), .bool (((decI I.words[i]).op != 65#8))]) ap81 rfl rfl rfl (O22) ((Sl.of1 (n44.blk).cells rfl).src Tryz.underlying81 (List.all_eq_true.1 rfl)) (by omega) (by omega) rfl ?_
      intro v45 w45 o45 m45 l45
      have F23 : From w.heap.size v45 := LocV.from l45 (Mod.size (E19)) ((fun g hg => by have := (hB g hg).1; omega))
      have N24 : v45.ownBlock ≠ some b17 := LocV.ne l45 ((B20).lt) (fun e => by have := (hB b17 e).1; omega)
      have B26 := (((B11).ext (n9.ext)).ext (ed_8)).ext (n44.ext)
      have N25 : v45.ownBlock ≠ some b2 := LocV.ne l45 ((B26).lt) (fun e => by have := (hB b2 e).1; omega)
      have N27 : v45.ownBlock ≠ some b9 := LocV.ne l45 ((B21).lt) N9
      have E28 : Ext w w45 := Mod.from (E19) m45 ((fun g hg => by have := (hB g hg).1; omega))
      have hB2 := locB l45 hB hl44
      have B29 := (B20).mod (m45) ((fun e => by have := (hB b17 e).1; omega))
      have B30 := (B21).mod (m45) (N9)
      refine WL.behindS (⟨Mod.trans (Mod.trans (Mod.trans (Mod.trans (Mod.ext (ede)) (Mod.ext (n9.ext))) (Mod.ext (ed_8))) (Mod.ext (n44.ext))) (m45), B29, B30⟩) ?_
      refine WAL.one (i := 16) (m' := 131071) (by kernel_rfl) rfl rfl ?_
      refine WL.nilCheck rfl rfl (WL.behindS (⟨Mod.trans (Mod.trans (Mod.trans (Mod.trans (Mod.ext (ede)) (Mod.ext (n9.ext))) (Mod.ext (ed_8))) (Mod.ext (n44.ext))) (m45), B29, B30⟩) ?_)
      refine WAL.take (i := 17) (m' := 262143) (v := ptr b17 1) rfl rfl rfl rfl (by kernel_rfl) rfl (fun _ _ _ h => h) (fun wx hS => ?_) (⟨Mod.trans (Mod.trans (Mod.trans (Mod.trans (Mod.ext (ede)) (Mod.ext (n9.ext))) (Mod.ext (ed_8))) (Mod.ext (n44.ext))) (m45), B29, B30⟩) ?_
      · exact WL.fieldAddr rfl fo85_1 rfl (WL.nil ⟨rfl, rfl, rfl⟩)
      refine WAL.one (i := 18) (m' := 524287) (by kernel_rfl) rfl rfl ?_
      refine WL.storeB (v := v45) rfl rfl (o45).one sz81 B29 (Nat.le_of_ble_eq_true rfl) ?_
      intro ws31 ms31 bs31 zs31
      have E31 : Ext w ws31 := Mod.then (E28) (ms31) (fun i hi (e : i = b17) => absurd hi (by omega))
      refine WL.behindL (by kernel_rfl) ?_
      refine WAL.done (by kernel_rfl) ?_
      refine WC.region (WL.bin h21_1 rfl rfl (BinR.succN (by omega)) (WL.move (v := IN (i + 1)) rfl rfl (WL.nil ?_)))
      have O32 := ((((((hIV).ext (ede)).ext (n9.ext)).ext (ed_8)).ext (n44.ext)).mod (m45) ((fun g hg e => by have h1 := hivb g hg; have h2 := (hB g e).1; omega))).mod (ms31) (fun g hg e => (fun e => by have := hivb b17 e; omega) (hg.trans (congrArg some e)))
      have hIVe := O32
      have O33 := (o45).mod (ms31) (fun g hg e => N24 (hg.trans (congrArg some e)))
      have hOe : Ux.Own ws31 6 v45 (i + 1) (codeV ((I.words.take (i + 1)).map decW)) := by rw [codeV_take _ _ hi]; first | (rw [decW_T hd8_38]; exact O33) | (rw [decW_F hd8_38]; exact O33)
      have B34 := ((B26).mod (m45) ((fun e => by have := (hB b2 e).1; omega))).mod (ms31) ((by omega))
      exact ⟨ka - 1, by omega, (i + 1), (v45), by omega, h0_1, h1_1, h2_1, h6_1, h19_1, h20_1, rfl, hIVe, hOe, (fun g hg => ⟨hB2 g hg, hOe.lt (by omega) (by decide) hg⟩), bs31, B34, E31⟩
    · refine WC.drawL (fun w_ => Mod (At cvv) wr w_ ∧ Blk w_ b17 #[.slice none 0 0, cvv, .slice ia il ic, U64 (0#64), U64 (0#64), U64 (0#64), U64 (0#64), U64 (0#64), U64 (0#64), U64 (0#64), U64 (0#64), U64 (0#64), U64 (0#64), U64 (0#64), U64 (0#64), U64 (0#64), U64 (0#64), U64 (0#64), U64 (0#64), U64 (0#64), U64 (0#64), U64 (0#64), U64 (0#64), U64 (0#64), U64 (0#64), U64 (0#64), U64 (0#64), U64 (0#64), U64 (0#64), U64 (0#64), U64 (0#64), U64 (0#64), U64 (0#64), U64 (0#64), U64 (0#64), U64 (65536#64), .slice none 0 0, .nilIface, .int .i64 (0)] 85 ∧ Blk w_ b9 #[U8 ((decI I.words[i]).op), U8 ((decI I.words[i]).rd), U8 ((decI I.words[i]).rs1), U8 ((decI I.words[i]).rs2), I64 ((decI I.words[i]).imm)] 48) 18 19 rfl mixed ?_
      intro wd_8 ed_8
      have E36 : Ext w wd_8 := Mod.trans (E13) (ed_8)
      have B37 := ((B10).ext (n9.ext)).ext (ed_8)
      have B38 := (n9.blk).ext (ed_8)
      refine WAL.take (i := 0) (m' := 1) (v := ptr b17 0) rfl rfl rfl rfl (by kernel_rfl) rfl (fun _ _ _ h => h) (fun wx hS => ?_) (⟨Mod.trans (Mod.trans (Mod.ext (ede)) (Mod.ext (n9.ext))) (Mod.ext (ed_8)), B37, B38⟩) ?_
      · exact WL.move (v := ptr b17 0) h6_1 rfl (WL.nil ⟨rfl, rfl, rfl⟩)
      refine WAL.take (i := 1) (m' := 3) (v := ptr b17 0) rfl rfl rfl rfl (by kernel_rfl) rfl (fun _ _ _ h => h) (fun wx hS => ?_) (⟨Mod.trans (Mod.trans (Mod.ext (ede)) (Mod.ext (n9.ext))) (Mod.ext (ed_8)), B37, B38⟩) ?_
      · exact WL.move (v := ptr b17 0) h6_1 rfl (WL.nil ⟨rfl, rfl, rfl⟩)
      refine WAL.take (i := 2) (m' := 7) (v := ptr b17 0) rfl rfl rfl rfl (by kernel_rfl) rfl (fun _ _ _ h => h) (fun wx hS => ?_) (⟨Mod.trans (Mod.trans (Mod.ext (ede)) (Mod.ext (n9.ext))) (Mod.ext (ed_8)), B37, B38⟩) ?_
      · exact WL.nilCheck rfl rfl (WL.nil ⟨rfl, rfl, rfl⟩)
      refine WAL.take (i := 3) (m' := 15) (v := ptr b17 1) rfl rfl rfl rfl (by kernel_rfl) rfl (fun _ _ _ h => h) (fun wx hS => ?_) (⟨Mod.trans (Mod.trans (Mod.ext (ede)) (Mod.ext (n9.ext))) (Mod.ext (ed_8)), B37, B38⟩) ?_
      · exact WL.fieldAddr rfl fo85_1 rfl (WL.nil ⟨rfl, rfl, rfl⟩)
      refine WAL.take (i := 4) (m' := 31) (v := cvv) rfl rfl rfl rfl (by kernel_rfl) rfl (fun _ _ _ h => h) (fun wx hS => ?_) (⟨Mod.trans (Mod.trans (Mod.ext (ede)) (Mod.ext (n9.ext))) (Mod.ext (ed_8)), B37, B38⟩) ?_
      · exact WL.load1 rfl ag81 (hS.2.1.cell (j := 1) rfl) rfl (WL.nil ⟨rfl, rfl, rfl⟩)
      refine WAL.take (i := 5) (m' := 63) (v := .agg #[U8 ((decI I.words[i]).op), U8 ((decI I.words[i]).rd), U8 ((decI I.words[i]).rs1), U8 ((decI I.words[i]).rs2), I64 ((decI I.words[i]).imm)]) rfl rfl rfl rfl (by kernel_rfl) rfl (fun _ _ _ h => h) (fun wx hS => ?_) (⟨Mod.trans (Mod.trans (Mod.ext (ede)) (Mod.ext (n9.ext))) (Mod.ext (ed_8)), B37, B38⟩) ?_
      · exact WL.loadS [U8 ((decI I.words[i]).op), U8 ((decI I.words[i]).rd), U8 ((decI I.words[i]).rs1), U8 ((decI I.words[i]).rs2), I64 ((decI I.words[i]).imm)] rfl ag48 sz48 rfl (hS.2.2.sub (o := 0) (vs := [U8 ((decI I.words[i]).op), U8 ((decI I.words[i]).rd), U8 ((decI I.words[i]).rs1), U8 ((decI I.words[i]).rs2), I64 ((decI I.words[i]).imm)]) rfl) rfl (WL.nil ⟨rfl, rfl, rfl⟩)
      refine WAL.take (i := 6) (m' := 127) (v := IN ((decE I.words[i]))) rfl rfl rfl rfl (by kernel_rfl) rfl (fun _ _ _ h => h) (fun wx hS => ?_) (⟨Mod.trans (Mod.trans (Mod.ext (ede)) (Mod.ext (n9.ext))) (Mod.ext (ed_8)), B37, B38⟩) ?_
      · exact WL.move (v := IN ((decE I.words[i]))) rfl rfl (WL.nil ⟨rfl, rfl, rfl⟩)
      refine WAL.take (i := 7) (m' := 255) (v := .bool (((((decE I.words[i]) : Nat) : Int) == (0 : Int)))) rfl rfl rfl rfl (by kernel_rfl) rfl (fun _ _ _ h => h) (fun wx hS => ?_) (⟨Mod.trans (Mod.trans (Mod.ext (ede)) (Mod.ext (n9.ext))) (Mod.ext (ed_8)), B37, B38⟩) ?_
      · exact WL.bin rfl rfl rfl (BinR.eql) (WL.nil ⟨rfl, rfl, rfl⟩)
      refine WAL.take (i := 8) (m' := 511) (v := .bool (((((decE I.words[i]) : Nat) : Int) == (0 : Int)))) rfl rfl rfl rfl (by kernel_rfl) rfl (fun _ _ _ h => h) (fun wx hS => ?_) (⟨Mod.trans (Mod.trans (Mod.ext (ede)) (Mod.ext (n9.ext))) (Mod.ext (ed_8)), B37, B38⟩) ?_
      · exact WL.move (v := .bool (((((decE I.words[i]) : Nat) : Int) == (0 : Int)))) rfl rfl (WL.nil ⟨rfl, rfl, rfl⟩)
      refine WAL.off (i := 9) (m' := 1023) (y := some false) rfl rfl rfl rfl (by kernel_rfl) rfl (fun _ _ _ h => h) (yf_bool rfl rfl hd8_38) rfl (⟨Mod.trans (Mod.trans (Mod.ext (ede)) (Mod.ext (n9.ext))) (Mod.ext (ed_8)), B37, B38⟩) ?_
      refine WAL.off (i := 10) (m' := 2047) (y := some false) rfl rfl rfl rfl (by kernel_rfl) rfl (fun _ _ _ h => h) (yf_bool rfl rfl hd8_38) rfl (⟨Mod.trans (Mod.trans (Mod.ext (ede)) (Mod.ext (n9.ext))) (Mod.ext (ed_8)), B37, B38⟩) ?_
      refine WAL.off (i := 11) (m' := 4095) (y := some false) rfl rfl rfl rfl (by kernel_rfl) rfl (fun _ _ _ h => h) (yf_bool rfl rfl hd8_38) rfl (⟨Mod.trans (Mod.trans (Mod.ext (ede)) (Mod.ext (n9.ext))) (Mod.ext (ed_8)), B37, B38⟩) ?_
      refine WAL.take (i := 12) (m' := 8191) (v := .bool (false)) rfl rfl rfl rfl (by kernel_rfl) rfl (fun _ _ _ h => h) (fun wx hS => ?_) (⟨Mod.trans (Mod.trans (Mod.ext (ede)) (Mod.ext (n9.ext))) (Mod.ext (ed_8)), B37, B38⟩) ?_
      · exact WL.pick (b := false) (congrArg Value.bool hd8_38) rfl rfl (WL.nil ⟨rfl, rfl, rfl⟩)
      refine WAL.take (i := 13) (m' := 16383) (v := .agg #[U8 ((decI I.words[i]).op), U8 ((decI I.words[i]).rd), U8 ((decI I.words[i]).rs1), U8 ((decI I.words[i]).rs2), I64 ((decI I.words[i]).imm), .bool (false)]) rfl rfl rfl rfl (by kernel_rfl) rfl (fun _ _ _ h => h) (fun wx hS => ?_) (⟨Mod.trans (Mod.trans (Mod.ext (ede)) (Mod.ext (n9.ext))) (Mod.ext (ed_8)), B37, B38⟩) ?_
      · exact WL.build (v := .agg #[U8 ((decI I.words[i]).op), U8 ((decI I.words[i]).rd), U8 ((decI I.words[i]).rs1), U8 ((decI I.words[i]).rs2), I64 ((decI I.words[i]).imm), .bool (false)]) (vs := [(0, .agg #[U8 ((decI I.words[i]).op), U8 ((decI I.words[i]).rd), U8 ((decI I.words[i]).rs1), U8 ((decI I.words[i]).rs2), I64 ((decI I.words[i]).imm)]), (1, .bool (false))]) rfl (bld10_43 (decI I.words[i]).op (decI I.words[i]).rd (decI I.words[i]).rs1 (decI I.words[i]).rs2 (decI I.words[i]).imm (false)) rfl (WL.nil ⟨rfl, rfl, rfl⟩)
      refine WAL.one (i := 14) (m' := 32767) (by kernel_rfl) rfl rfl ?_
      refine WL.buildSlice (vs := [(0, .agg #[U8 ((decI I.words[i]).op), U8 ((decI I.words[i]).rd), U8 ((decI I.words[i]).rs1), U8 ((decI I.words[i]).rs2), I64 ((decI I.words[i]).imm), .bool (false)])]) rfl (bls10_44 (decI I.words[i]).op (decI I.words[i]).rd (decI I.words[i]).rs1 (decI I.words[i]).rs2 (decI I.words[i]).imm (false)) rfl ?_
      intro b44 w44 n44
      have E40 : Ext w w44 := Mod.trans (E36) (n44.ext)
      have B41 := (B37).ext (n44.ext)
      have B42 := (B38).ext (n44.ext)
      refine WL.behindS (⟨Mod.trans (Mod.trans (Mod.trans (Mod.ext (ede)) (Mod.ext (n9.ext))) (Mod.ext (ed_8))) (Mod.ext (n44.ext)), B41, B42⟩) ?_
      refine WAL.one (i := 15) (m' := 65535) (by kernel_rfl) rfl rfl ?_
      have hl44 : b17 < w44.heap.size := (B41).lt
      have O43 := ((((hO).ext (ede)).ext (n9.ext)).ext (ed_8)).ext (n44.ext)
      refine WL.append (k := i) (m := 1) (xs := codeV ((I.words.take i).map decW)) (news := [U8 ((decI I.words[i]).op), U8 ((decI I.words[i]).rd), U8 ((decI I.words[i]).rs1), U8 ((decI I.words[i]).rs2), I64 ((decI I.words[i]).imm), .bool (false)]) ap81 rfl rfl rfl (O43) ((Sl.of1 (n44.blk).cells rfl).src Tryz.underlying81 (List.all_eq_true.1 rfl)) (by omega) (by omega) rfl ?_
      intro v45 w45 o45 m45 l45
      have F44 : From w.heap.size v45 := LocV.from l45 (Mod.size (E40)) ((fun g hg => by have := (hB g hg).1; omega))
      have N45 : v45.ownBlock ≠ some b17 := LocV.ne l45 ((B41).lt) (fun e => by have := (hB b17 e).1; omega)
      have B47 := (((B11).ext (n9.ext)).ext (ed_8)).ext (n44.ext)
      have N46 : v45.ownBlock ≠ some b2 := LocV.ne l45 ((B47).lt) (fun e => by have := (hB b2 e).1; omega)
      have N48 : v45.ownBlock ≠ some b9 := LocV.ne l45 ((B42).lt) N9
      have E49 : Ext w w45 := Mod.from (E40) m45 ((fun g hg => by have := (hB g hg).1; omega))
      have hB2 := locB l45 hB hl44
      have B50 := (B41).mod (m45) ((fun e => by have := (hB b17 e).1; omega))
      have B51 := (B42).mod (m45) (N9)
      refine WL.behindS (⟨Mod.trans (Mod.trans (Mod.trans (Mod.trans (Mod.ext (ede)) (Mod.ext (n9.ext))) (Mod.ext (ed_8))) (Mod.ext (n44.ext))) (m45), B50, B51⟩) ?_
      refine WAL.one (i := 16) (m' := 131071) (by kernel_rfl) rfl rfl ?_
      refine WL.nilCheck rfl rfl (WL.behindS (⟨Mod.trans (Mod.trans (Mod.trans (Mod.trans (Mod.ext (ede)) (Mod.ext (n9.ext))) (Mod.ext (ed_8))) (Mod.ext (n44.ext))) (m45), B50, B51⟩) ?_)
      refine WAL.take (i := 17) (m' := 262143) (v := ptr b17 1) rfl rfl rfl rfl (by kernel_rfl) rfl (fun _ _ _ h => h) (fun wx hS => ?_) (⟨Mod.trans (Mod.trans (Mod.trans (Mod.trans (Mod.ext (ede)) (Mod.ext (n9.ext))) (Mod.ext (ed_8))) (Mod.ext (n44.ext))) (m45), B50, B51⟩) ?_
      · exact WL.fieldAddr rfl fo85_1 rfl (WL.nil ⟨rfl, rfl, rfl⟩)
      refine WAL.one (i := 18) (m' := 524287) (by kernel_rfl) rfl rfl ?_
      refine WL.storeB (v := v45) rfl rfl (o45).one sz81 B50 (Nat.le_of_ble_eq_true rfl) ?_
      intro ws52 ms52 bs52 zs52
      have E52 : Ext w ws52 := Mod.then (E49) (ms52) (fun i hi (e : i = b17) => absurd hi (by omega))
      refine WL.behindL (by kernel_rfl) ?_
      refine WAL.done (by kernel_rfl) ?_
      refine WC.region (WL.bin h21_1 rfl rfl (BinR.succN (by omega)) (WL.move (v := IN (i + 1)) rfl rfl (WL.nil ?_)))
      have O53 := ((((((hIV).ext (ede)).ext (n9.ext)).ext (ed_8)).ext (n44.ext)).mod (m45) ((fun g hg e => by have h1 := hivb g hg; have h2 := (hB g e).1; omega))).mod (ms52) (fun g hg e => (fun e => by have := hivb b17 e; omega) (hg.trans (congrArg some e)))
      have hIVe := O53
      have O54 := (o45).mod (ms52) (fun g hg e => N45 (hg.trans (congrArg some e)))
      have hOe : Ux.Own ws52 6 v45 (i + 1) (codeV ((I.words.take (i + 1)).map decW)) := by rw [codeV_take _ _ hi]; first | (rw [decW_T hd8_38]; exact O54) | (rw [decW_F hd8_38]; exact O54)
      have B55 := ((B47).mod (m45) ((fun e => by have := (hB b2 e).1; omega))).mod (ms52) ((by omega))
      exact ⟨ka - 1, by omega, (i + 1), (v45), by omega, h0_1, h1_1, h2_1, h6_1, h19_1, h20_1, rfl, hIVe, hOe, (fun g hg => ⟨hB2 g hg, hOe.lt (by omega) (by decide) hg⟩), bs52, B55, E52⟩
  · have hi : i = I.words.length := by have := of_decide_eq_false hc22; omega
    have hOc : Ux.Own wr 6 cvv I.words.length (codeV (I.words.map decW)) := by have h := hO; rw [hi, List.take_length] at h; exact h
    refine WC.exit (WC.seq (WC.drawL (fun w_ => Ext wr w_) 10 11 rfl mixed ?_))
    intro wd_10 ed_10
    have R56 : Ext wr wd_10 := Mod.trans (Mod.refl _ _) (ed_10)
    have R57 : Ext wr wd_10 := Mod.trans (Mod.refl _ _) (ed_10)
    have E58 : Ext w wd_10 := Mod.trans (hE) (ed_10)
    refine WAL.take (i := 0) (m' := 1) (v := ptr b17 0) rfl rfl rfl rfl (by kernel_rfl) rfl (fun _ _ _ h => h) (fun wx hS => ?_) (R57) ?_
    · exact WL.move (v := ptr b17 0) h6_1 rfl (WL.nil ⟨rfl, rfl, rfl⟩)
    refine WAL.take (i := 1) (m' := 3) (v := ptr b2 0) rfl rfl rfl rfl (by kernel_rfl) rfl (fun _ _ _ h => h) (fun wx hS => ?_) (R57) ?_
    · exact WL.fieldAddr h2_1 fo25_0 rfl (WL.nil ⟨rfl, rfl, rfl⟩)
    refine WAL.take (i := 2) (m' := 7) (v := .int .i64 (I.entry)) rfl rfl rfl rfl (by kernel_rfl) rfl (fun _ _ _ h => h) (fun wx hS => ?_) (R57) ?_
    · have B62 := (h2).ext (hS)
      exact WL.load1 rfl ag3 (B62.cell (j := 0) rfl) rfl (WL.nil ⟨rfl, rfl, rfl⟩)
    refine WAL.two (i := 3) (j := 5) (mi := 15) (mj := 39) (by kernel_rfl) rfl rfl rfl rfl ?_ ?_
    · have B63 := (h17).ext (ed_10)
      refine WL.makeSliceB (m := I.entry.toNat) ap45 (Eq.trans (rfl) hent) (Eq.trans (rfl) hent) (by omega) (by omega) rfl ?_
      intro b52 w52 n52
      have hl52 : b17 < b52 := by have := (B63).lt; have := n52.num; omega
      have hk52 : ∀ g, cvv.ownBlock = some g → g < b52 := fun g hg => by have := (hB g hg).2; have := n52.num; have := Mod.size (R56); omega
      have R64 : Ext wr w52 := Mod.trans (R56) (n52.ext)
      have R65 : Ext wr w52 := Mod.trans (R57) (n52.ext)
      have E66 : Ext w w52 := Mod.trans (E58) (n52.ext)
      refine WL.behindS (R65) ?_
      refine WAL.take (i := 4) (m' := 31) (v := .agg #[U64 (4194304#64), .slice (some ⟨b52, 0, none⟩) (I.entry.toNat) (I.entry.toNat)]) rfl rfl rfl rfl (by kernel_rfl) rfl (fun _ _ _ h => h) (fun wx hS => ?_) (R65) ?_
      · exact WL.build (v := .agg #[U64 (4194304#64), .slice (some ⟨b52, 0, none⟩) (I.entry.toNat) (I.entry.toNat)]) (vs := [(0, U64 (4194304#64)), (1, .slice (some ⟨b52, 0, none⟩) (I.entry.toNat) (I.entry.toNat))]) rfl (bld10_53 b52 I.entry.toNat) rfl (WL.nil ⟨rfl, rfl, rfl⟩)
      refine WAL.one (i := 5) (m' := 63) (by kernel_rfl) rfl rfl ?_
      have B68 := (B63).ext (n52.ext)
      refine WL.makeSliceB (m := 65536) ap45 rfl rfl (by omega) (by omega) rfl ?_
      intro b54 w54 n54
      have hl54 : b17 < b54 := by have := (B68).lt; have := n54.num; omega
      have hk54 : ∀ g, cvv.ownBlock = some g → g < b54 := fun g hg => by have := (hB g hg).2; have := n54.num; have := Mod.size (R64); omega
      have hx52 : b52 ≠ b54 := by have := n52.blk.lt; have := n54.num; omega
      have R70 : Ext wr w54 := Mod.trans (R65) (n54.ext)
      have E71 : Ext w w54 := Mod.trans (E66) (n54.ext)
      refine WL.behindS (R70) ?_
      refine WAL.take (i := 6) (m' := 127) (v := .agg #[U64 (8323072#64), .slice (some ⟨b54, 0, none⟩) (65536) (65536)]) rfl rfl rfl rfl (by kernel_rfl) rfl (fun _ _ _ h => h) (fun wx hS => ?_) (R70) ?_
      · exact WL.build (v := .agg #[U64 (8323072#64), .slice (some ⟨b54, 0, none⟩) (65536) (65536)]) (vs := [(0, U64 (8323072#64)), (1, .slice (some ⟨b54, 0, none⟩) (65536) (65536))]) rfl (bld10_55 b54 65536) rfl (WL.nil ⟨rfl, rfl, rfl⟩)
      refine WAL.one (i := 7) (m' := 255) (by kernel_rfl) rfl rfl ?_
      have B73 := (n52.blk).ext (n54.ext)
      refine WL.buildSlice (vs := [(0, .agg #[U64 (4194304#64), .slice (some ⟨b52, 0, none⟩) (I.entry.toNat) (I.entry.toNat)]), (1, .agg #[U64 (8323072#64), .slice (some ⟨b54, 0, none⟩) (65536) (65536)])]) rfl (bls10_56 b52 b54 I.entry.toNat 65536) rfl ?_
      intro b56 w56 n56
      have R75 : Ext wr w56 := Mod.trans (R70) (n56.ext)
      have E76 : Ext w w56 := Mod.trans (E71) (n56.ext)
      have hz56 : b52 < b56 ∧ b54 < b56 := by have := n56.num; have h1 := (B73).lt; have h2 := (n54.blk).lt; omega
      refine WL.behindS (R75) ?_
      refine WAL.one (i := 8) (m' := 511) (by kernel_rfl) rfl rfl ?_
      refine WL.nilCheck rfl rfl (WL.behindS (R75) ?_)
      refine WAL.take (i := 9) (m' := 1023) (v := ptr b17 0) rfl rfl rfl rfl (by kernel_rfl) rfl (fun _ _ _ h => h) (fun wx hS => ?_) (R75) ?_
      · exact WL.fieldAddr rfl fo85_0 rfl (WL.nil ⟨rfl, rfl, rfl⟩)
      refine WAL.one (i := 10) (m' := 2047) (by kernel_rfl) rfl rfl ?_
      have B78 := ((B68).ext (n54.ext)).ext (n56.ext)
      refine WL.storeB (v := .slice (some ⟨b56, 0, none⟩) 2 2) rfl rfl rfl sz80 B78 (Nat.le_of_ble_eq_true rfl) ?_
      intro ws79 ms79 bs79 zs79
      have E79 : Ext w ws79 := Mod.then (E76) (ms79) (fun i hi (e : i = b17) => absurd hi (by omega))
      refine WL.behindL (by kernel_rfl) ?_
      refine WAL.done (by kernel_rfl) ?_
      refine WC.seq (WC.region (WL.move (v := ptr b17 0) h6_1 rfl (WL.nilCheck rfl rfl (WL.fieldAddr rfl fo85_3 rfl (WL.indexArr (i := 2) ar68 sz39 rfl rfl (by omega) rfl (WL.storeB (v := U64 (8388608#64)) rfl rfl rfl sz39 bs79 (Nat.le_of_ble_eq_true rfl) ?_))))))
      intro ws80 ms80 bs80 zs80
      have E80 : Ext w ws80 := Mod.then (E79) (ms80) (fun i hi (e : i = b17) => absurd hi (by omega))
      refine WL.nil (WC.seq (WC.region (WL.move (v := ptr b17 0) h6_1 rfl (WL.assign (v := ptr b17 0) rfl rfl (WL.assign (v := IN (0)) rfl rfl (WL.nil (WC.ret ?_)))))))
      have B81 := ((n56.blk).mod (ms79) ((by omega))).mod (ms80) ((by omega))
      have O82 := ((((n52.blk.own).ext (n54.ext)).ext (n56.ext)).mod (ms79) (fun g hg e => (fun e => by have h : b52 = b17 := Option.some.inj e; omega) (hg.trans (congrArg some e)))).mod (ms80) (fun g hg e => (fun e => by have h : b52 = b17 := Option.some.inj e; omega) (hg.trans (congrArg some e)))
      have O83 := (((n54.blk.own).ext (n56.ext)).mod (ms79) (fun g hg e => (fun e => by have h : b54 = b17 := Option.some.inj e; omega) (hg.trans (congrArg some e)))).mod (ms80) (fun g hg e => (fun e => by have h : b54 = b17 := Option.some.inj e; omega) (hg.trans (congrArg some e)))
      have O84 := ((((((hO).ext (ed_10)).ext (n52.ext)).ext (n54.ext)).ext (n56.ext)).mod (ms79) (fun g hg e => (fun e => by have := (hB b17 e).1; omega) (hg.trans (congrArg some e)))).mod (ms80) (fun g hg e => (fun e => by have := (hB b17 e).1; omega) (hg.trans (congrArg some e)))
      have O85 := ((((((hIV).ext (ed_10)).ext (n52.ext)).ext (n54.ext)).ext (n56.ext)).mod (ms79) (fun g hg e => (fun e => by have := hivb b17 e; omega) (hg.trans (congrArg some e)))).mod (ms80) (fun g hg e => (fun e => by have := hivb b17 e; omega) (hg.trans (congrArg some e)))
      obtain ⟨T, hT1, hT2⟩ := new_mr (n0 := w.heap.size) bs80 B81 O82 O83 (by rw [← hi]; have h := O84; rw [hi] at h ⊢; rw [List.take_length] at h; exact h) O85 hivb (fun g hg => (hB g hg).1) hk52 hk54 hl52 hl54 hx52 hz56 hbb hivF h6 (by omega)
      exact ⟨_, Res.two (v := ptr b17 0) (v' := IN (0)) rfl rfl rfl, T, b17, rfl, hT1, hT2, E80⟩
    · have B86 := (h17).ext (ed_10)
      refine WL.makeSliceB (m := 65536) ap45 rfl rfl (by omega) (by omega) rfl ?_
      intro b54 w54 n54
      have hl54 : b17 < b54 := by have := (B86).lt; have := n54.num; omega
      have hk54 : ∀ g, cvv.ownBlock = some g → g < b54 := fun g hg => by have := (hB g hg).2; have := n54.num; have := Mod.size (R56); omega
      have R87 : Ext wr w54 := Mod.trans (R56) (n54.ext)
      have R88 : Ext wr w54 := Mod.trans (R57) (n54.ext)
      have E89 : Ext w w54 := Mod.trans (E58) (n54.ext)
      refine WL.behindS (R88) ?_
      refine WAL.take (i := 6) (m' := 103) (v := .agg #[U64 (8323072#64), .slice (some ⟨b54, 0, none⟩) (65536) (65536)]) rfl rfl rfl rfl (by kernel_rfl) rfl (fun _ _ _ h => h) (fun wx hS => ?_) (R88) ?_
      · exact WL.build (v := .agg #[U64 (8323072#64), .slice (some ⟨b54, 0, none⟩) (65536) (65536)]) (vs := [(0, U64 (8323072#64)), (1, .slice (some ⟨b54, 0, none⟩) (65536) (65536))]) rfl (bld10_55 b54 65536) rfl (WL.nil ⟨rfl, rfl, rfl⟩)
      refine WAL.one (i := 3) (m' := 111) (by kernel_rfl) rfl rfl ?_
      have B91 := (B86).ext (n54.ext)
      refine WL.makeSliceB (m := I.entry.toNat) ap45 (Eq.trans (rfl) hent) (Eq.trans (rfl) hent) (by omega) (by omega) rfl ?_
      intro b52 w52 n52
      have hl52 : b17 < b52 := by have := (B91).lt; have := n52.num; omega
      have hk52 : ∀ g, cvv.ownBlock = some g → g < b52 := fun g hg => by have := (hB g hg).2; have := n52.num; have := Mod.size (R87); omega
      have hx52 : b52 ≠ b54 := by have := n54.blk.lt; have := n52.num; omega
      have R93 : Ext wr w52 := Mod.trans (R88) (n52.ext)
      have E94 : Ext w w52 := Mod.trans (E89) (n52.ext)
      refine WL.behindS (R93) ?_
      refine WAL.take (i := 4) (m' := 127) (v := .agg #[U64 (4194304#64), .slice (some ⟨b52, 0, none⟩) (I.entry.toNat) (I.entry.toNat)]) rfl rfl rfl rfl (by kernel_rfl) rfl (fun _ _ _ h => h) (fun wx hS => ?_) (R93) ?_
      · exact WL.build (v := .agg #[U64 (4194304#64), .slice (some ⟨b52, 0, none⟩) (I.entry.toNat) (I.entry.toNat)]) (vs := [(0, U64 (4194304#64)), (1, .slice (some ⟨b52, 0, none⟩) (I.entry.toNat) (I.entry.toNat))]) rfl (bld10_53 b52 I.entry.toNat) rfl (WL.nil ⟨rfl, rfl, rfl⟩)
      refine WAL.one (i := 7) (m' := 255) (by kernel_rfl) rfl rfl ?_
      have B96 := (n54.blk).ext (n52.ext)
      refine WL.buildSlice (vs := [(0, .agg #[U64 (4194304#64), .slice (some ⟨b52, 0, none⟩) (I.entry.toNat) (I.entry.toNat)]), (1, .agg #[U64 (8323072#64), .slice (some ⟨b54, 0, none⟩) (65536) (65536)])]) rfl (bls10_56 b52 b54 I.entry.toNat 65536) rfl ?_
      intro b56 w56 n56
      have R98 : Ext wr w56 := Mod.trans (R93) (n56.ext)
      have E99 : Ext w w56 := Mod.trans (E94) (n56.ext)
      have hz56 : b52 < b56 ∧ b54 < b56 := by have := n56.num; have h1 := (n52.blk).lt; have h2 := (B96).lt; omega
      refine WL.behindS (R98) ?_
      refine WAL.one (i := 8) (m' := 511) (by kernel_rfl) rfl rfl ?_
      refine WL.nilCheck rfl rfl (WL.behindS (R98) ?_)
      refine WAL.take (i := 9) (m' := 1023) (v := ptr b17 0) rfl rfl rfl rfl (by kernel_rfl) rfl (fun _ _ _ h => h) (fun wx hS => ?_) (R98) ?_
      · exact WL.fieldAddr rfl fo85_0 rfl (WL.nil ⟨rfl, rfl, rfl⟩)
      refine WAL.one (i := 10) (m' := 2047) (by kernel_rfl) rfl rfl ?_
      have B101 := ((B91).ext (n52.ext)).ext (n56.ext)
      refine WL.storeB (v := .slice (some ⟨b56, 0, none⟩) 2 2) rfl rfl rfl sz80 B101 (Nat.le_of_ble_eq_true rfl) ?_
      intro ws102 ms102 bs102 zs102
      have E102 : Ext w ws102 := Mod.then (E99) (ms102) (fun i hi (e : i = b17) => absurd hi (by omega))
      refine WL.behindL (by kernel_rfl) ?_
      refine WAL.done (by kernel_rfl) ?_
      refine WC.seq (WC.region (WL.move (v := ptr b17 0) h6_1 rfl (WL.nilCheck rfl rfl (WL.fieldAddr rfl fo85_3 rfl (WL.indexArr (i := 2) ar68 sz39 rfl rfl (by omega) rfl (WL.storeB (v := U64 (8388608#64)) rfl rfl rfl sz39 bs102 (Nat.le_of_ble_eq_true rfl) ?_))))))
      intro ws103 ms103 bs103 zs103
      have E103 : Ext w ws103 := Mod.then (E102) (ms103) (fun i hi (e : i = b17) => absurd hi (by omega))
      refine WL.nil (WC.seq (WC.region (WL.move (v := ptr b17 0) h6_1 rfl (WL.assign (v := ptr b17 0) rfl rfl (WL.assign (v := IN (0)) rfl rfl (WL.nil (WC.ret ?_)))))))
      have B104 := ((n56.blk).mod (ms102) ((by omega))).mod (ms103) ((by omega))
      have O105 := (((n52.blk.own).ext (n56.ext)).mod (ms102) (fun g hg e => (fun e => by have h : b52 = b17 := Option.some.inj e; omega) (hg.trans (congrArg some e)))).mod (ms103) (fun g hg e => (fun e => by have h : b52 = b17 := Option.some.inj e; omega) (hg.trans (congrArg some e)))
      have O106 := ((((n54.blk.own).ext (n52.ext)).ext (n56.ext)).mod (ms102) (fun g hg e => (fun e => by have h : b54 = b17 := Option.some.inj e; omega) (hg.trans (congrArg some e)))).mod (ms103) (fun g hg e => (fun e => by have h : b54 = b17 := Option.some.inj e; omega) (hg.trans (congrArg some e)))
      have O107 := ((((((hO).ext (ed_10)).ext (n54.ext)).ext (n52.ext)).ext (n56.ext)).mod (ms102) (fun g hg e => (fun e => by have := (hB b17 e).1; omega) (hg.trans (congrArg some e)))).mod (ms103) (fun g hg e => (fun e => by have := (hB b17 e).1; omega) (hg.trans (congrArg some e)))
      have O108 := ((((((hIV).ext (ed_10)).ext (n54.ext)).ext (n52.ext)).ext (n56.ext)).mod (ms102) (fun g hg e => (fun e => by have := hivb b17 e; omega) (hg.trans (congrArg some e)))).mod (ms103) (fun g hg e => (fun e => by have := hivb b17 e; omega) (hg.trans (congrArg some e)))
      obtain ⟨T, hT1, hT2⟩ := new_mr (n0 := w.heap.size) bs103 B104 O105 O106 (by rw [← hi]; have h := O107; rw [hi] at h ⊢; rw [List.take_length] at h; exact h) O108 hivb (fun g hg => (hB g hg).1) hk52 hk54 hl52 hl54 hx52 hz56 hbb hivF h6 (by omega)
      exact ⟨_, Res.two (v := ptr b17 0) (v' := IN (0)) rfl rfl rfl, T, b17, rfl, hT1, hT2, E103⟩
end Go.Proofs.S
end
section
namespace Go.Ux
open Go
def pairT (P : Program) (t : Nat) : Bool :=
  match P.underlying t with
  | some (.struct fs) => match fs.toList with
    | [a, b] => a.name != "_" && b.name != "_" && a.offset == 0 && b.offset == 1 && (match P.underlying a.type with | some (.int _) => true | _ => false) && (match P.underlying b.type with | some (.int _) => true | _ => false) && isAggT P a.type == some false && isAggT P b.type == some false && !P.stoodInHeld t
    | _ => false
  | _ => false
theorem equal_pair {P : Program} {t : Nat} (h : pairT P t = true) (k1 k2 : IntKind) (a b x y : Int) (w : World) : (Op.equal t (.agg #[.int k1 a, .int k2 x]) (.agg #[.int k1 b, .int k2 y])).run P w = .ok (a == b && x == y) w := by
  unfold pairT at h
  split at h <;> try cases h
  rename_i fs hu
  split at h <;> try cases h
  rename_i fa fb hl
  simp only [Bool.and_eq_true, bne_iff_ne, beq_iff_eq, Bool.not_eq_true'] at h
  obtain ⟨⟨⟨⟨⟨⟨⟨⟨h1, h2⟩, h3⟩, h4⟩, h5⟩, h6⟩, h7⟩, h8⟩, h9⟩ := h
  split at h5 <;> try cases h5
  rename_i ka hia
  split at h6 <;> try cases h6
  rename_i kb hib
  have hf : P.fieldsOf t = fs := by simp [Program.fieldsOf, hu]
  show (Op.equalIn (9999 + 1) t _ _).run P w = _
  rw [run_equalIn_struct (P := P) w 9999 t _ _ (by rw [hf]; exact hu) h9, hf, hl]
  have e1 : ∀ w, (Op.equalIn 9999 fa.type (.int k1 a) (.int k1 b)).run P w = .ok (a == b) w := fun w => by
    show (Op.equalIn (9998 + 1) fa.type (.int k1 a) (.int k1 b)).run P w = _
    unfold Op.equalIn
    simp [run_underlying hia, Result.andThen]
  have e2 : ∀ w, (Op.equalIn 9999 fb.type (.int k2 x) (.int k2 y)).run P w = .ok (x == y) w := fun w => by
    show (Op.equalIn (9998 + 1) fb.type (.int k2 x) (.int k2 y)).run P w = _
    unfold Op.equalIn
    simp [run_underlying hib, Result.andThen]
  simp only [Op.eqFields, h1, h2, h3, h4, ne_eq, not_false_eq_true, if_true]
  have p1 : ∀ (u v : Value) (w : World), (part fa.type #[u, v] 0).run P w = .ok u w := fun u v w => by simp [part, isAggT_run h7, Result.andThen]
  have p2 : ∀ (u v : Value) (w : World), (part fb.type #[u, v] 1).run P w = .ok v w := fun u v w => by simp [part, isAggT_run h8, Result.andThen]
  simp only [Sem.run_bind, p1, e1, Result.andThen]
  generalize (a == b) = p at *
  generalize (x == y) = q at *
  cases p <;> cases q <;> simp [p2, e2, Result.andThen]
theorem beqInt {n : Nat} (x y : BitVec n) : (x.toInt == y.toInt) = (x == y) := by
  rw [Bool.eq_iff_iff]
  simp only [beq_iff_eq]
  exact ⟨BitVec.eq_of_toInt_eq, fun h => by rw [h]⟩
theorem BinR.eqlEv {P : Program} {t : Nat} (h : pairT P t = true) (hg : P.eqGuardType P.depth t = false) {a b : BitVec 8} {x y : BitVec 64} : BinR P .eql t (.agg #[U8 a, I64 x]) (.agg #[U8 b, I64 y]) (.bool (a == b && x == y)) := fun o o' w => by
  have e := equal_pair h .u8 .i64 a.toNat b.toNat x.toInt y.toInt w
  rw [beqNat, beqInt] at e
  simp only [eqGuard, binOp, Sem.run_bind, Sem.run_pure, Result.andThen]; simp [e, hg]
end Go.Ux
end
section
set_option linter.unusedSimpArgs false
set_option linter.unusedVariables false
namespace Go.Proofs.S
open Go Go.Ux Go.Ux.Mach Go.Proofs
theorem zt25 : zeroT Tryz.prog 25 = some #[.int .i64 0, .slice none 0 0, .slice none 0 0] := by kernel_rfl
theorem bld20_6  : ∀ w : World, (Instr.build 98 #[(0, St [115, 116, 97, 114, 116])]).run Tryz.prog w = .ok (.agg #[St [115, 116, 97, 114, 116], IN (0)]) w := fun _ => by kernel_rfl
theorem bls20_7  : ∀ w : World, (Instr.buildSlice 22 1 #[(0, .agg #[St [115, 116, 97, 114, 116], IN (0)])]).run Tryz.prog w = .ok (.slice (some ⟨w.heap.size, 0, none⟩) 1 1) (w.alloc (.cells #[St [115, 116, 97, 114, 116], IN (0)] 98)) := fun _ => by kernel_rfl
theorem bld20_9 (x : Int) (p : Nat) (a : Option Addr) (n c : Nat) : ∀ w : World, (Instr.build 25 #[(0, .int .i64 (x)), (1, .slice (some ⟨p, 0, none⟩) 1 1), (2, .slice a n c)]).run Tryz.prog w = .ok (.agg #[.int .i64 (x), .slice (some ⟨p, 0, none⟩) 1 1, .slice a n c]) w := fun _ => by kernel_rfl
theorem bls9_6  : ∀ w : World, (Instr.buildSlice 23 5 #[(0, U32 (7341331#32)), (1, U32 (2099347#32)), (2, U32 (115#32)), (3, U32 (3147923#32)), (4, U32 (115#32))]).run Tryz.prog w = .ok (.slice (some ⟨w.heap.size, 0, none⟩) 5 5) (w.alloc (.cells #[U32 (7341331#32), U32 (2099347#32), U32 (115#32), U32 (3147923#32), U32 (115#32)] 50)) := fun _ => by kernel_rfl
theorem ca20 : callable Tryz.prog 20 = true := by kernel_rfl
theorem ca10 : callable Tryz.prog 10 = true := by kernel_rfl
theorem ca11 : callable Tryz.prog 11 = true := by kernel_rfl
theorem ca14 : callable Tryz.prog 14 = true := by kernel_rfl
theorem el34 : elemT Tryz.prog 34 = some 38 := by kernel_rfl
theorem sz38 : sizeT Tryz.prog 38 = some 2 := by kernel_rfl
theorem ag38 : isAggT Tryz.prog 38 = some true := by kernel_rfl
theorem bld9_30  : ∀ w : World, (Instr.build 38 #[(0, .int .u8 (2)), (1, I64 (7#64))]).run Tryz.prog w = .ok (.agg #[.int .u8 (2), I64 (7#64)]) w := fun _ => by kernel_rfl
theorem bld9_37  : ∀ w : World, (Instr.build 38 #[(0, .int .u8 (3)), (1, I64 (7#64))]).run Tryz.prog w = .ok (.agg #[.int .u8 (3), I64 (7#64)]) w := fun _ => by kernel_rfl
theorem ca13 : callable Tryz.prog 13 = true := by kernel_rfl
theorem ca16 : callable Tryz.prog 16 = true := by kernel_rfl
open Go.Proofs.M (instV Glob findRow decodeAt decReg rowIs findRow_lt)
open Go.Ux.Image
theorem glob_size {w : World} (h : Glob w) : 6 ≤ w.heap.size := by
  have := World.block_lt_of_cell? w _ (h.f7 0 _ rfl)
  exact this
theorem findRow_pos {x : BitVec 32} {i : Nat} (h : findRow x tableD = some i) : 1 ≤ i := by
  rcases Nat.eq_zero_or_pos i with h0 | h0
  · subst h0
    unfold findRow at h
    rw [List.findIdx?_eq_some_iff_getElem] at h
    obtain ⟨hl, h1, _⟩ := h
    exact absurd h1 (by show ¬ rowIs zeroRow x = true; unfold rowIs; simp [zeroRow, RvRow.form, formOf, zeroForm])
  · exact h0
theorem decReg_lt (has : Bool) (k : Nat) (x : BitVec 32) : (decReg has (k, 5) x).toNat < 32 := by
  unfold decReg
  split
  · have h1 : ((1#32 <<< 5) - 1#32 : BitVec 32) = 31#32 := by decide
    simp only [bitsOf, h1, BitVec.toNat_setWidth, BitVec.toNat_and]
    have : (x >>> k).toNat &&& (31#32 : BitVec 32).toNat ≤ 31 := Nat.and_le_right
    omega
  · decide
theorem decI_ok {x : BitVec 32} (h : (decW x).2 = true) : 1 ≤ (decI x).op.toNat ∧ (decI x).op.toNat < 66 ∧ ((decI x).rs1).toNat < 32 ∧ ((decI x).rs2).toNat < 32 ∧ ((decI x).rd).toNat < 32 := by
  have h0 : (((decE x : Nat) : Int) == (0 : Int)) = true := by
    rcases Bool.eq_false_or_eq_true (((decE x : Nat) : Int) == (0 : Int)) with h1 | h1
    · exact h1
    · rw [decW_F h1] at h; cases h
  unfold decE at h0
  unfold decI
  rcases hf : findRow x tableD with _ | i
  · rw [hf] at h0; cases h0
  · have h1 := findRow_pos hf
    have h2 : i < 66 := findRow_lt hf
    have e : (BitVec.ofNat 8 i).toNat = i := by rw [BitVec.toNat_ofNat]; omega
    refine ⟨?_, ?_, decReg_lt _ _ _, decReg_lt _ _ _, decReg_lt _ _ _⟩
    · show 1 ≤ (BitVec.ofNat 8 i).toNat; omega
    · show (BitVec.ofNat 8 i).toNat < 66; omega
theorem newM_code {I : Img} {inp : List (BitVec 64)} (h : I.words.length ≤ 262144) : CodeOk (newM I inp).code := by
  refine ⟨by show (I.words.map decW).length ≤ _; rw [List.length_map]; omega, fun p hp h2 => ?_⟩
  obtain ⟨x, _, rfl⟩ := List.mem_map.1 hp
  exact decI_ok h2
theorem pair38 : pairT Tryz.prog 38 = true := by kernel_rfl
theorem pairg38 : Tryz.prog.eqGuardType Tryz.prog.depth 38 = false := by kernel_rfl
def workI : Img := ⟨0, [([115, 116, 97, 114, 116], 0)], [7341331#32, 2099347#32, 115#32, 3147923#32, 115#32]⟩
theorem work_right : rightB workI = true := by kernel_rfl
theorem work_n : (runN 100 (newM workI [])).1 = 5 := by kernel_rfl
theorem work_ev : (runN 100 (newM workI [])).2.events = [(2#8, 7#64), (3#8, 7#64)] := by kernel_rfl
theorem work_fin : (runN 100 (newM workI [])).2.fin = some false := by kernel_rfl
theorem whole_spec (a : Option Addr) (n c : Nat) (dat : Int) (w : World) : CallsR Tryz.prog 20 #[.slice a n c, .int .i64 (dat)] w (fun v w' => ∃ p, v = .agg #[.int .i64 dat, .slice (some ⟨p, 0, none⟩) 1 1, .slice a n c] ∧ Sl w' (.slice (some ⟨p, 0, none⟩) 1 1) 2 1 (symCells [([115, 116, 97, 114, 116], 0)]) ∧ Ext w w') := by
  refine callsR_of Tryz.func20 rfl rfl rfl ?_
  refine WC.seq (WC.region (WL.alloc zt25 rfl ?_))
  intro b4 w4 n4
  have E1 : Ext w w4 := Mod.trans (Mod.refl _ _) (n4.ext)
  refine WL.nil (WC.seq (WC.region (WL.move (v := .int .i64 (dat)) rfl rfl (WL.build (v := .agg #[St [115, 116, 97, 114, 116], IN (0)]) (vs := [(0, St [115, 116, 97, 114, 116])]) rfl (bld20_6) rfl (WL.buildSlice (vs := [(0, .agg #[St [115, 116, 97, 114, 116], IN (0)])]) rfl (bls20_7) rfl ?_)))))
  intro b7 w7 n7
  have E2 : Ext w w7 := Mod.trans (E1) (n7.ext)
  refine WL.move (v := .slice a n c) rfl rfl (WL.build (v := .agg #[.int .i64 (dat), .slice (some ⟨b7, 0, none⟩) 1 1, .slice a n c]) (vs := [(0, .int .i64 (dat)), (1, .slice (some ⟨b7, 0, none⟩) 1 1), (2, .slice a n c)]) rfl (bld20_9 dat b7 a n c) rfl ?_)
  have B3 := (n4.blk).ext (n7.ext)
  refine WL.storeS (v := .agg #[.int .i64 (dat), .slice (some ⟨b7, 0, none⟩) 1 1, .slice a n c]) rfl rfl B3 rfl sz25 rfl rfl ?_
  intro ws4 ms4 bs4 zs4
  have E4 : Ext w ws4 := Mod.own (Mod.refl _ _) n4 (E2) (ms4)
  refine WL.nil (WC.ret ?_)
  have B5 := (n7.blk).mod (ms4) (Ne.symm ((n4.blk).ne n7))
  exact ⟨_, Res.cell rfl rfl (loadVar_agg [.int .i64 (dat), .slice (some ⟨b7, 0, none⟩) 1 1, .slice a n c] ag25 sz25 rfl (bs4.sub (o := 0) rfl)), b7, rfl, (Sl.of1 (B5).cells rfl), E4⟩
set_option maxRecDepth 100000 in
theorem works_spec (w : World) (hG : Glob w) (hX : w.cell? ⟨3, 0, none⟩ = some (.iface 206 (.agg #[.pointer (some ⟨6, 83, none⟩)]))) : CallsR Tryz.prog 9 #[] w (fun v w' => v = .bool true ∧ Ext w w') := by
  refine callsR_of Tryz.func9 rfl rfl rfl ?_
  refine WC.seq (WC.region (WL.assign (v := .bool (false)) rfl rfl (WL.nil (WC.seq (WC.region (WL.buildSlice (vs := [(0, U32 (7341331#32)), (1, U32 (2099347#32)), (2, U32 (115#32)), (3, U32 (3147923#32)), (4, U32 (115#32))]) rfl (bls9_6) rfl ?_))))))
  intro b6 w6 n6
  have E1 : Ext w w6 := Mod.trans (Mod.refl _ _) (n6.ext)
  refine WL.call ca20 (rfl) rfl (whole_spec (some ⟨b6, 0, none⟩) 5 5 0 _) ?_
  rintro _ wwh ⟨p, rfl, hsy, ewh⟩
  have E2 : Ext w wwh := Mod.trans (E1) (ewh)
  have B3 := (n6.blk).ext (ewh)
  have hRW : Rep wwh (.slice (some ⟨p, 0, none⟩) 1 1) (.slice (some ⟨b6, 0, none⟩) 5 5) workI := ⟨hsy, Go.Proofs.M.Sl.ofCells (n := 5) (B3).cells rfl, by decide, by decide⟩
  refine WL.call ca10 (rfl) rfl (new_ok workI _ _ (.slice none 0 0) [] _ hRW (by decide) (hG.ext (E2)) (glob_size (hG.ext (E2))) (Sl.nil _ _ _) (.inl rfl) (by decide) work_right) ?_
  rintro _ wne ⟨T, b, rfl, hM, hT, ene⟩
  have hTw : ∀ k, T k ≠ 0 → w.heap.size ≤ k := fun k h => Nat.le_trans (Mod.size (E2)) (hT k h)
  have E4 : Ext w wne := Mod.trans (E2) (ene)
  refine WL.move (v := .tuple #[ptr b 0, IN 0]) rfl rfl (WL.extract rfl rfl rfl (WL.extract rfl rfl rfl (WL.assign (v := ptr b 0) rfl rfl (WL.assign (v := IN (0)) rfl rfl (WL.nil (WC.seq (WC.region (WL.move (v := ptr b 0) rfl rfl (WL.call ca11 (rfl) rfl (run_spec T b (newM workI []) _ hM 100 (by decide) (newM_code (by decide)) (hG.ext (E4)) (Mod.cell (E4) hX (fun h => h)) (by decide)) ?_)))))))))
  rintro v12 wru ⟨hv12, T1, hM1, m1, hs1⟩
  obtain rfl : v12 = IN 5 := hv12.trans (congrArg (fun n : Nat => IN n) work_n)
  have EM5 : Ext w wru := Mod.then (E4) m1 (fun i hi e => absurd (hTw i e) (Nat.not_le_of_lt hi))
  refine WL.assign (v := IN (5)) rfl rfl (WL.nil (WC.seq (WC.region (WL.move (v := ptr b 0) rfl rfl ?_))))
  have hle : (runN (100 : Int).toNat (newM workI [])).2.events = [(2#8, 7#64), (3#8, 7#64)] := work_ev
  refine WL.call ca14 (rfl) rfl (events_spec T1 b _ _ hM1 (by rw [hle]; decide)) ?_
  rintro v14 wev ⟨hc1, hc2, hc3⟩
  rw [hle] at hc1
  have E6 : Ext w wev := Mod.trans (EM5) (hc3)
  refine WL.assign (v := v14) rfl rfl (WL.nil (WC.seq (WC.region (WL.move (v := IN (0)) rfl rfl (WL.bin (v := .bool (true)) rfl rfl rfl (BinR.toB (BinR.eql) (rfl)) (WL.move (v := .bool (true)) rfl rfl (WL.guardT (rfl) (WL.move (v := IN (5)) rfl rfl (WL.guardT (rfl) ?_)))))))))
  refine WL.bin (v := .bool (true)) rfl rfl rfl (BinR.toB (BinR.eql) (rfl)) (WL.pick (b := true) rfl rfl rfl (WL.move (v := .bool (true)) rfl rfl (WL.guardT (rfl) (WL.move (v := v14) rfl rfl (WL.guardT (rfl) (WL.lenSl (sz := 2) (m := 2) (xs := evV [(2#8, 7#64), (3#8, 7#64)]) el34 rfl (hc1.sl) rfl (WL.guardT (rfl) (WL.bin (v := .bool (true)) rfl rfl rfl (BinR.toB (BinR.eql) (rfl)) (WL.pick (b := true) rfl rfl rfl ?_)))))))))
  refine WL.move (v := .bool (true)) rfl rfl (WL.guardT (rfl) (WL.move (v := v14) rfl rfl (WL.guardT (rfl) (WL.indexSl (sz := 2) (m := 2) (xs := evV [(2#8, 7#64), (3#8, 7#64)]) (i := 0) el34 sz38 rfl rfl (by omega) (hc1.sl) rfl ?_))))
  intro b28 o28 hb28 hc28
  refine WL.guardT (rfl) (WL.loadS [U8 2#8, I64 7#64] rfl ag38 sz38 rfl (cells2 (i := 0) hc28 rfl rfl) rfl (WL.guardT (rfl) (WL.build (v := .agg #[.int .u8 (2), I64 (7#64)]) (vs := [(0, .int .u8 (2)), (1, I64 (7#64))]) rfl (bld9_30) rfl (WL.guardT (rfl) (WL.bin (vx := .agg #[U8 2#8, I64 7#64]) (vy := .agg #[U8 2#8, I64 7#64]) (v := .bool true) rfl rfl rfl (BinR.toB (BinR.eqlEv pair38 pairg38) (by decide)) (WL.pick (b := true) rfl rfl rfl (WL.move (v := .bool (true)) rfl rfl (WL.guardT (rfl) (WL.move (v := v14) rfl rfl ?_)))))))))
  refine WL.guardT (rfl) (WL.indexSl (sz := 2) (m := 2) (xs := evV [(2#8, 7#64), (3#8, 7#64)]) (i := 1) el34 sz38 rfl rfl (by omega) (hc1.sl) rfl ?_)
  intro b35 o35 hb35 hc35
  refine WL.guardT (rfl) (WL.loadS [U8 3#8, I64 7#64] rfl ag38 sz38 rfl (cells2 (i := 1) hc35 rfl rfl) rfl (WL.guardT (rfl) (WL.build (v := .agg #[.int .u8 (3), I64 (7#64)]) (vs := [(0, .int .u8 (3)), (1, I64 (7#64))]) rfl (bld9_37) rfl (WL.guardT (rfl) (WL.bin (vx := .agg #[U8 3#8, I64 7#64]) (vy := .agg #[U8 3#8, I64 7#64]) (v := .bool true) rfl rfl rfl (BinR.toB (BinR.eqlEv pair38 pairg38) (by decide)) (WL.pick (b := true) rfl rfl rfl (WL.move (v := .bool (true)) rfl rfl (WL.guardT (rfl) (WL.move (v := ptr b 0) rfl rfl ?_)))))))))
  refine WL.guardT (rfl) (WL.call ca13 (rfl) rfl (ended_spec T1 b _ _ (hM1.ext (hc3))) ?_)
  rintro _ we ⟨rfl, ee⟩
  rw [show (runN (100 : Int).toNat (newM workI [])).2.fin = some false from work_fin]
  have E7 : Ext w we := Mod.trans (E6) (ee)
  refine WL.pick (b := true) rfl rfl rfl (WL.move (v := .bool (true)) rfl rfl (WL.guardT (rfl) (WL.move (v := ptr b 0) rfl rfl (WL.guardT (rfl) (WL.call ca16 (rfl) rfl (trapped_m T1 b _ _ (hM1.ext (hc3.trans ee)) (Mod.cell (E7) hX (fun h => h))) ?_)))))
  rintro _ wt ⟨rfl, et⟩
  rw [show (runN (100 : Int).toNat (newM workI [])).2.fin = some false from work_fin]
  have E8 : Ext w wt := Mod.trans (E7) (et)
  refine WL.guardT (rfl) (WL.un rfl rfl UnR.not (WL.pick (b := true) rfl rfl rfl (WL.assign (v := .bool (true)) rfl rfl (WL.nil (WC.ret ?_)))))
  exact ⟨_, Res.one (v := .bool (true)) rfl rfl, rfl, E8⟩
end Go.Proofs.S
end
section
set_option linter.unusedSimpArgs false
set_option linter.unusedVariables false
namespace Go.Proofs.S
open Go Go.Ux Go.Ux.Mach Go.Proofs
theorem ca9 : callable Tryz.prog 9 = true := by kernel_rfl
theorem fo25_1 : fieldOff Tryz.prog 25 1 = some 1 := by kernel_rfl
theorem ag22 : isAggT Tryz.prog 22 = some false := by kernel_rfl
theorem el22 : elemT Tryz.prog 22 = some 98 := by kernel_rfl
theorem ca17 : callable Tryz.prog 17 = true := by kernel_rfl
open Go.Proofs.M (instV Glob)
open Go.Ux.Image
theorem runN_add : ∀ (a b : Nat) (M : MS), runN (a + b) M = ((runN a M).1 + (runN b (runN a M).2).1, (runN b (runN a M).2).2)
  | 0, b, M => by rw [Nat.zero_add]; show _ = (0 + (runN b M).1, (runN b M).2); rw [Nat.zero_add]
  | a + 1, b, M => by
    rcases hf : M.fin with _ | t
    · rw [show a + 1 + b = (a + b) + 1 by omega, runN_go hf, runN_go hf, runN_add a b (stepM M)]
      refine Prod.ext ?_ rfl
      show (runN a (stepM M)).1 + (runN b (runN a (stepM M)).2).1 + 1 = (runN a (stepM M)).1 + 1 + (runN b (runN a (stepM M)).2).1
      omega
    · have h : M.fin.isSome = true := by rw [hf]; rfl
      rw [runN_end h (a + 1 + b), runN_end h (a + 1)]
      show (0, M) = (0 + (runN b M).1, (runN b M).2)
      rw [runN_end h b]; rfl
theorem run_specN (T : Nat → Nat) (b : Nat) (M : MS) (w : World) (h : MR T w b M) (n : Nat) (hn : n ≤ 1000000) (hc : CodeOk M.code) (hG : Glob w) (hX : w.cell? ⟨3, 0, none⟩ = some (.iface 206 (.agg #[.pointer (some ⟨6, 83, none⟩)]))) (hev : M.events.length ≤ 1000000) :
    CallsR Tryz.prog 11 #[ptr b 0, IN n] w (fun v w' => v = IN (runN n M).1 ∧ Turn T w b (runN n M).2 w') :=
  run_spec T b M w h (n : Int) (by omega) hc hG hX (by rw [Int.toNat_natCast]; omega)
theorem floor_turn {T T' : Nat → Nat} {w w1 : World} (h : ∀ k, T k ≠ 0 → w.heap.size ≤ k) (hs : ∀ k, T' k ≠ 0 → T k ≠ 0 ∨ w1.heap.size ≤ k) (hw : w.heap.size ≤ w1.heap.size) : ∀ k, T' k ≠ 0 → w.heap.size ≤ k := fun k hk => by
  rcases hs k hk with h1 | h1
  · exact h k h1
  · omega
end Go.Proofs.S
end
section
set_option linter.unusedSimpArgs false
set_option linter.unusedVariables false
namespace Go.Proofs.S
open Go Go.Ux Go.Ux.Mach Go.Proofs
theorem el49 : elemT Tryz.prog 49 = some 48 := by kernel_rfl
theorem bls19_25 (z : Int) : ∀ w : World, (Instr.buildSlice 23 1 #[(0, .int .u32 z)]).run Tryz.prog w = .ok (.slice (some ⟨w.heap.size, 0, none⟩) 1 1) (w.alloc (.cells #[.int .u32 z] 50)) := fun _ => by kernel_rfl
theorem ap23 : appT Tryz.prog 23 = some (50, 1, 4, #[.int .u32 0]) := by kernel_rfl
open Go.Proofs.M (instV Glob)
open Go.Ux.Image
def instCells (l : List RvInst) : List Value := l.flatMap fun a => [U8 a.op, U8 a.rd, U8 a.rs1, U8 a.rs2, I64 a.imm]
theorem instCells_get (l : List RvInst) (i : Nat) (h : i < l.length) (j : Nat) (hj : j < 5) : (instCells l)[i * 5 + j]? = [U8 l[i].op, U8 l[i].rd, U8 l[i].rs1, U8 l[i].rs2, I64 l[i].imm][j]? := by
  induction l generalizing i with
  | nil => simp at h
  | cons a r ih =>
    cases i with
    | zero =>
      simp only [instCells, List.flatMap_cons, Nat.zero_mul, Nat.zero_add, List.getElem_cons_zero]
      rw [List.getElem?_append_left (by simpa using hj)]
    | succ i =>
      have := ih i (by simpa using h)
      simp only [List.getElem_cons_succ]
      rw [← this]
      simp only [instCells, List.flatMap_cons]
      rw [List.getElem?_append_right (by simp; omega)]
      congr 1
      simp; omega
theorem inst_at {w : World} {b o : Nat} {l : List RvInst} (h : Cells w b o (instCells l)) {i : Nat} (hi : i < l.length) : Cells w b (o + i * 5) [U8 l[i].op, U8 l[i].rd, U8 l[i].rs1, U8 l[i].rs2, I64 l[i].imm] := by
  intro j u hj
  have hj5 : j < 5 := by have := (List.getElem?_eq_some_iff.1 hj).1; simpa using this
  rw [Nat.add_assoc]
  exact h (i * 5 + j) u (by rw [instCells_get l i hi j hj5]; exact hj)
def codeW (l : List RvInst) : List (BitVec 32) := l.filterMap fun a => if (encodeR a).2 = 0 then some (encodeR a).1 else none
theorem codeW_take (l : List RvInst) (i : Nat) (h : i < l.length) : codeW (l.take (i + 1)) = codeW (l.take i) ++ (if (encodeR l[i]).2 = 0 then [(encodeR l[i]).1] else []) := by
  unfold codeW
  rw [List.take_add_one, List.filterMap_append, List.getElem?_eq_getElem h]
  congr 1
  simp only [Option.toList, List.filterMap_cons, List.filterMap_nil]
  split
  · rename_i h2; split at h2
    · cases h2
    · rename_i h3; rw [if_neg h3]
  · rename_i h2; split at h2
    · rename_i h3; cases h2; rw [if_pos h3]
    · cases h2
theorem codeW_le (l : List RvInst) : (codeW l).length ≤ l.length := List.length_filterMap_le _ _
set_option maxRecDepth 100000 in
theorem code_spec (lv : Value) (l : List RvInst) (w : World) (hG : Glob w) (hS : Sl w lv 5 l.length (instCells l)) (hl : l.length ≤ 100000) : CallsR Tryz.prog 19 #[lv] w (fun v w' => Ux.Own w' 1 v (codeW l).length (wordCells (codeW l)) ∧ From w.heap.size v ∧ Ext w w') := by
  refine callsR_of Tryz.func19 rfl rfl rfl ?_
  refine WC.seq (WC.region (WL.assign (v := .slice none 0 0) rfl rfl (WL.nil (WC.seq (WC.region (WL.assign (v := .slice none 0 0) rfl rfl (WL.nil (WC.seq (WC.seq ?_)))))))))
  refine WC.region (WL.assign (v := IN (0)) rfl rfl (WL.nil (WC.block ?_)))
  refine WC.loop (fun k f w_ => ∃ i v, (k + i = l.length) ∧ f 0 = lv ∧ f 3 = v ∧ f 4 = IN (i) ∧ (Ext w w_) ∧ (Ux.Own w_ 1 v (codeW (l.take i)).length (wordCells (codeW (l.take i)))) ∧ (From w.heap.size v)) (l.length) ?_ ?_
  · exact ⟨(0), (.slice none 0 0), by omega, rfl, rfl, rfl, Mod.refl _ _, Ux.Own.nil _ 1, fun g hg => by cases hg⟩
  rintro ka f1 wr ⟨i, v, hk1, h0_1, h3_1, h4_1, hE, hO, hF⟩
  refine WC.seq (WC.seq (WC.region (WL.move (v := IN (i)) h4_1 rfl (WL.move (v := lv) h0_1 rfl (WL.lenSl (sz := 5) (m := l.length) (xs := instCells l) el49 rfl ((hS).ext' (hE)) rfl (WL.bin rfl rfl rfl (BinR.lss) (WL.nil ?_)))))))
  refine WC.cond rfl (fun hc10 => ?_) (fun hc10 => ?_)
  · have hi : i < l.length := by have := of_decide_eq_true hc10; omega
    obtain ⟨bl, ol, cl, el, hcl⟩ := hS.at (by omega)
    have hle := codeW_le (l.take i)
    have hle2 : (l.take i).length ≤ l.length := by rw [List.length_take]; omega
    refine WC.skip (WC.seq (WC.block (WC.seq (WC.region (WL.move (v := lv) h0_1 rfl (WL.move (v := IN (i)) h4_1 rfl (WL.indexAddr (i := i) (b := bl) (o := ol) el49 sz48 (Eq.trans (rfl) el) rfl (by omega) rfl (WL.loadS [U8 ((l[i]).op), U8 ((l[i]).rd), U8 ((l[i]).rs1), U8 ((l[i]).rs2), I64 ((l[i]).imm)] rfl ag48 sz48 rfl (inst_at (hcl.ext (hE)) hi) rfl (WL.call ca28 (rfl) rfl (encode_spec (l[i]) _ (hG.ext (hE))) ?_)))))))))
    rintro _ wc18 ⟨rfl, ec18⟩
    have E2 : Ext w wc18 := Mod.trans (hE) (ec18)
    refine WL.move (v := .tuple #[U32 (encodeR (l[i])).1, IN (encodeR (l[i])).2]) rfl rfl (WL.extract rfl rfl rfl (WL.extract rfl rfl rfl (WL.assign (v := U32 ((encodeR (l[i])).1)) rfl rfl (WL.assign (v := IN ((encodeR (l[i])).2)) rfl rfl (WL.nil (WC.seq (WC.region (WL.move (v := IN ((encodeR (l[i])).2)) rfl rfl (WL.bin rfl rfl rfl (BinR.eql) ?_)))))))))
    refine WL.nil ?_
    refine WC.cond rfl (fun hc22 => ?_) (fun hc22 => ?_)
    · have hz : (encodeR (l[i])).2 = 0 := by simpa using hc22
      refine WC.region (WL.move (v := v) h3_1 rfl (WL.move (v := U32 ((encodeR (l[i])).1)) rfl rfl (WL.buildSlice (vs := [(0, U32 ((encodeR (l[i])).1))]) rfl (bls19_25 (((encodeR (l[i])).1).toNat : Int)) rfl ?_)))
      intro b25 w25 n25
      have E4 : Ext w w25 := Mod.trans (E2) (n25.ext)
      have O5 := ((hO).ext (ec18)).ext (n25.ext)
      refine WL.append (k := (codeW (l.take i)).length) (m := 1) (xs := wordCells (codeW (l.take i))) (news := [U32 (encodeR (l[i])).1]) ap23 rfl rfl rfl (O5) ((Sl.of1 (n25.blk).cells rfl).src Tryz.underlying23 (List.all_eq_true.1 rfl)) (by omega) (by omega) rfl ?_
      intro v26 w26 o26 m26 l26
      have o26b : Ux.Own w26 1 v26 ((codeW (l.take (i + 1))).length) (wordCells (codeW (l.take (i + 1)))) := by rw [codeW_take l i hi, if_pos hz, List.length_append]; unfold wordCells; rw [List.map_append]; exact o26
      have F6 : From w.heap.size v26 := LocV.from l26 (Mod.size (E4)) (hF)
      have E7 : Ext w w26 := Mod.from (E4) m26 (hF)
      refine WL.assign (v := v26) rfl rfl (WL.nil (WC.region (WL.move (v := IN (i)) h4_1 rfl (WL.bin rfl rfl rfl (BinR.succN (by omega)) (WL.assign (v := IN (i + 1)) rfl rfl (WL.nil ?_))))))
      exact ⟨ka - 1, by omega, (i + 1), (v26), by omega, h0_1, rfl, rfl, E7, o26b, F6⟩
    · have hz : ¬ (encodeR (l[i])).2 = 0 := by simpa using hc22
      refine WC.skip (WC.region (WL.move (v := IN (i)) h4_1 rfl (WL.bin rfl rfl rfl (BinR.succN (by omega)) (WL.assign (v := IN (i + 1)) rfl rfl (WL.nil ?_)))))
      have O8 := (hO).ext (ec18)
      have hO2 : Ux.Own wc18 1 v (codeW (l.take (i + 1))).length (wordCells (codeW (l.take (i + 1)))) := by rw [codeW_take l i hi, if_neg hz, List.append_nil]; exact O8
      exact ⟨ka - 1, by omega, (i + 1), (v), by omega, h0_1, h3_1, rfl, E2, hO2, hF⟩
  · have hi2 : l.length ≤ i := by have := of_decide_eq_false hc10; omega
    refine WC.exit (WC.seq (WC.region (WL.move (v := v) h3_1 rfl (WL.assign (v := v) rfl rfl (WL.nil (WC.ret ?_))))))
    exact ⟨_, Res.one (v := v) rfl rfl, (by have h := hO; rw [show l.take i = l from List.take_of_length_le hi2] at h; exact h), hF, hE⟩
end Go.Proofs.S
end
section
namespace Go.Proofs.S
open Go Go.Ux Go.Ux.Mach
end Go.Proofs.S
end
section
namespace Go.Proofs.S
open Go Go.Ux Go.Ux.Mach Go.Proofs Go.Proofs.M Go.Ux.Image
open Go.Proofs.N (doM loadsM)
def trapI (k : Nat) : RvInst := if k < 7 then ⟨BitVec.ofNat 8 (11 + k), 6#8, 5#8, 0#8, 0#64⟩ else ⟨BitVec.ofNat 8 (11 + k), 0#8, 5#8, 2#8, 0#64⟩
def trapL (k : Nat) : List RvInst := [⟨22#8, 17#8, 0#8, 0#8, 1#64⟩, ⟨64#8, 0#8, 0#8, 0#8, 0#64⟩, ⟨22#8, 5#8, 10#8, 0#8, 0#64⟩, trapI k, ⟨22#8, 17#8, 0#8, 0#8, 3#64⟩, ⟨64#8, 0#8, 0#8, 0#8, 0#64⟩]
def trapImg (k : Nat) : Img := ⟨64, [([115, 116, 97, 114, 116], 0)], codeW (trapL k)⟩
theorem trap_words (k : Nat) (h : k < 11) : (codeW (trapL k)).length = 6 ∧ (codeW (trapL k)).map decW = (trapL k).map (fun a => (a, true)) := by
  match k, h with
  | 0, _ => exact ⟨by kernel_rfl, by kernel_rfl⟩
  | 1, _ => exact ⟨by kernel_rfl, by kernel_rfl⟩
  | 2, _ => exact ⟨by kernel_rfl, by kernel_rfl⟩
  | 3, _ => exact ⟨by kernel_rfl, by kernel_rfl⟩
  | 4, _ => exact ⟨by kernel_rfl, by kernel_rfl⟩
  | 5, _ => exact ⟨by kernel_rfl, by kernel_rfl⟩
  | 6, _ => exact ⟨by kernel_rfl, by kernel_rfl⟩
  | 7, _ => exact ⟨by kernel_rfl, by kernel_rfl⟩
  | 8, _ => exact ⟨by kernel_rfl, by kernel_rfl⟩
  | 9, _ => exact ⟨by kernel_rfl, by kernel_rfl⟩
  | 10, _ => exact ⟨by kernel_rfl, by kernel_rfl⟩
  | n + 11, h => omega
theorem trap_right (k : Nat) (h : k < 11) : rightB (trapImg k) = true := by
  match k, h with
  | 0, _ => exact (show rightB (trapImg 0) = true by kernel_rfl)
  | 1, _ => exact (show rightB (trapImg 1) = true by kernel_rfl)
  | 2, _ => exact (show rightB (trapImg 2) = true by kernel_rfl)
  | 3, _ => exact (show rightB (trapImg 3) = true by kernel_rfl)
  | 4, _ => exact (show rightB (trapImg 4) = true by kernel_rfl)
  | 5, _ => exact (show rightB (trapImg 5) = true by kernel_rfl)
  | 6, _ => exact (show rightB (trapImg 6) = true by kernel_rfl)
  | 7, _ => exact (show rightB (trapImg 7) = true by kernel_rfl)
  | 8, _ => exact (show rightB (trapImg 8) = true by kernel_rfl)
  | 9, _ => exact (show rightB (trapImg 9) = true by kernel_rfl)
  | 10, _ => exact (show rightB (trapImg 10) = true by kernel_rfl)
  | n + 11, h => omega
def trapM (k : Nat) (addr : BitVec 64) : MS := { newM (trapImg k) [] with x := updR (updR (updR (newM (trapImg k) []).x 17 1#64) 10 addr) 5 (addr + 0#64), pc := 65548#64, events := [(1#8, addr)], steps := 3#64 }
theorem trap_three (k : Nat) (h : k < 11) (addr : BitVec 64) : runN 3 (newM (trapImg k) [addr]) = (3, trapM k addr) := by
  match k, h with
  | 0, _ => exact (show runN 3 (newM (trapImg 0) [addr]) = (3, trapM 0 addr) by kernel_rfl)
  | 1, _ => exact (show runN 3 (newM (trapImg 1) [addr]) = (3, trapM 1 addr) by kernel_rfl)
  | 2, _ => exact (show runN 3 (newM (trapImg 2) [addr]) = (3, trapM 2 addr) by kernel_rfl)
  | 3, _ => exact (show runN 3 (newM (trapImg 3) [addr]) = (3, trapM 3 addr) by kernel_rfl)
  | 4, _ => exact (show runN 3 (newM (trapImg 4) [addr]) = (3, trapM 4 addr) by kernel_rfl)
  | 5, _ => exact (show runN 3 (newM (trapImg 5) [addr]) = (3, trapM 5 addr) by kernel_rfl)
  | 6, _ => exact (show runN 3 (newM (trapImg 6) [addr]) = (3, trapM 6 addr) by kernel_rfl)
  | 7, _ => exact (show runN 3 (newM (trapImg 7) [addr]) = (3, trapM 7 addr) by kernel_rfl)
  | 8, _ => exact (show runN 3 (newM (trapImg 8) [addr]) = (3, trapM 8 addr) by kernel_rfl)
  | 9, _ => exact (show runN 3 (newM (trapImg 9) [addr]) = (3, trapM 9 addr) by kernel_rfl)
  | 10, _ => exact (show runN 3 (newM (trapImg 10) [addr]) = (3, trapM 10 addr) by kernel_rfl)
  | n + 11, h => omega
theorem trap_next (k : Nat) (h : k < 11) (addr : BitVec 64) : nextM (trapM k addr) = some (trapI k) := by
  match k, h with
  | 0, _ => exact (show nextM (trapM 0 addr) = some (trapI 0) by kernel_rfl)
  | 1, _ => exact (show nextM (trapM 1 addr) = some (trapI 1) by kernel_rfl)
  | 2, _ => exact (show nextM (trapM 2 addr) = some (trapI 2) by kernel_rfl)
  | 3, _ => exact (show nextM (trapM 3 addr) = some (trapI 3) by kernel_rfl)
  | 4, _ => exact (show nextM (trapM 4 addr) = some (trapI 4) by kernel_rfl)
  | 5, _ => exact (show nextM (trapM 5 addr) = some (trapI 5) by kernel_rfl)
  | 6, _ => exact (show nextM (trapM 6 addr) = some (trapI 6) by kernel_rfl)
  | 7, _ => exact (show nextM (trapM 7 addr) = some (trapI 7) by kernel_rfl)
  | 8, _ => exact (show nextM (trapM 8 addr) = some (trapI 8) by kernel_rfl)
  | 9, _ => exact (show nextM (trapM 9 addr) = some (trapI 9) by kernel_rfl)
  | 10, _ => exact (show nextM (trapM 10 addr) = some (trapI 10) by kernel_rfl)
  | n + 11, h => omega
def trapZ (k : Nat) : Nat := [1, 2, 4, 8, 1, 2, 4, 1, 2, 4, 8].getD k 1
theorem does_load_none {M : MS} {a : RvInst} (hz : 0 < (loadsM a.op.toNat).1) (hw : whereM M.n (M.x a.rs1.toNat + a.imm) (loadsM a.op.toNat).1 = none) : doesM M a = (M, some true) := by
  unfold doesM; dsimp only; rw [if_pos hz, hw]
theorem does_store_none {M : MS} {a : RvInst} (h0 : ¬ 0 < (loadsM a.op.toNat).1) (hs : 18 ≤ a.op.toNat ∧ a.op.toNat ≤ 21) (hw : whereM M.n (M.x a.rs1.toNat + a.imm) (2 ^ (a.op.toNat - 18)) = none) : doesM M a = (M, some true) := by
  unfold doesM; dsimp only; rw [if_neg h0, if_pos hs, hw]
theorem does_load_some {M : MS} {a : RvInst} {k : Bool} {o : Nat} (hz : 0 < (loadsM a.op.toNat).1) (hw : whereM M.n (M.x a.rs1.toNat + a.imm) (loadsM a.op.toNat).1 = some (k, o)) : ∃ v, doesM M a = (putM M a v (doM a.op.toNat a.imm M.pc (M.x a.rs1.toNat) (M.x a.rs2.toNat)).2, none) := by
  unfold doesM; dsimp only; rw [if_pos hz, hw]; exact ⟨_, rfl⟩
theorem does_store_some {M : MS} {a : RvInst} {k : Bool} {o : Nat} (h0 : ¬ 0 < (loadsM a.op.toNat).1) (hs : 18 ≤ a.op.toNat ∧ a.op.toNat ≤ 21) (hw : whereM M.n (M.x a.rs1.toNat + a.imm) (2 ^ (a.op.toNat - 18)) = some (k, o)) :
    ∃ d s, doesM M a = (putM { M with d := d, s := s } a (doM a.op.toNat a.imm M.pc (M.x a.rs1.toNat) (M.x a.rs2.toNat)).1 (doM a.op.toNat a.imm M.pc (M.x a.rs1.toNat) (M.x a.rs2.toNat)).2, none) := by
  unfold doesM; dsimp only; rw [if_neg h0, if_pos hs, hw]
  cases k
  · exact ⟨M.d, _, rfl⟩
  · exact ⟨_, M.s, rfl⟩
theorem trap_addr (k : Nat) (h : k < 11) (addr : BitVec 64) : (trapM k addr).x (trapI k).rs1.toNat + (trapI k).imm = (addr + 0#64) + 0#64 := by
  match k, h with
  | 0, _ => exact (show (trapM 0 addr).x (trapI 0).rs1.toNat + (trapI 0).imm = (addr + 0#64) + 0#64 by kernel_rfl)
  | 1, _ => exact (show (trapM 1 addr).x (trapI 1).rs1.toNat + (trapI 1).imm = (addr + 0#64) + 0#64 by kernel_rfl)
  | 2, _ => exact (show (trapM 2 addr).x (trapI 2).rs1.toNat + (trapI 2).imm = (addr + 0#64) + 0#64 by kernel_rfl)
  | 3, _ => exact (show (trapM 3 addr).x (trapI 3).rs1.toNat + (trapI 3).imm = (addr + 0#64) + 0#64 by kernel_rfl)
  | 4, _ => exact (show (trapM 4 addr).x (trapI 4).rs1.toNat + (trapI 4).imm = (addr + 0#64) + 0#64 by kernel_rfl)
  | 5, _ => exact (show (trapM 5 addr).x (trapI 5).rs1.toNat + (trapI 5).imm = (addr + 0#64) + 0#64 by kernel_rfl)
  | 6, _ => exact (show (trapM 6 addr).x (trapI 6).rs1.toNat + (trapI 6).imm = (addr + 0#64) + 0#64 by kernel_rfl)
  | 7, _ => exact (show (trapM 7 addr).x (trapI 7).rs1.toNat + (trapI 7).imm = (addr + 0#64) + 0#64 by kernel_rfl)
  | 8, _ => exact (show (trapM 8 addr).x (trapI 8).rs1.toNat + (trapI 8).imm = (addr + 0#64) + 0#64 by kernel_rfl)
  | 9, _ => exact (show (trapM 9 addr).x (trapI 9).rs1.toNat + (trapI 9).imm = (addr + 0#64) + 0#64 by kernel_rfl)
  | 10, _ => exact (show (trapM 10 addr).x (trapI 10).rs1.toNat + (trapI 10).imm = (addr + 0#64) + 0#64 by kernel_rfl)
  | n + 11, h => omega
theorem trap_loads (k : Nat) (h : k < 7) : (loadsM (trapI k).op.toNat).1 = trapZ k ∧ 0 < trapZ k := by
  match k, h with
  | 0, _ => exact ⟨by kernel_rfl, by decide⟩
  | 1, _ => exact ⟨by kernel_rfl, by decide⟩
  | 2, _ => exact ⟨by kernel_rfl, by decide⟩
  | 3, _ => exact ⟨by kernel_rfl, by decide⟩
  | 4, _ => exact ⟨by kernel_rfl, by decide⟩
  | 5, _ => exact ⟨by kernel_rfl, by decide⟩
  | 6, _ => exact ⟨by kernel_rfl, by decide⟩
  | n + 7, h => omega
theorem trap_stores (k : Nat) (h7 : 7 ≤ k) (h : k < 11) : (loadsM (trapI k).op.toNat).1 = 0 ∧ (18 ≤ (trapI k).op.toNat ∧ (trapI k).op.toNat ≤ 21) ∧ 2 ^ ((trapI k).op.toNat - 18) = trapZ k := by
  have hk : k = 7 ∨ k = 8 ∨ k = 9 ∨ k = 10 := by omega
  rcases hk with rfl | rfl | rfl | rfl <;> decide
theorem trap_none_step (k : Nat) (h : k < 11) (addr : BitVec 64) (hW : whereM 64 addr (trapZ k) = none) : stepM (trapM k addr) = { trapM k addr with steps := (trapM k addr).steps + 1#64, fin := some true } := by
  have hW' : whereM 64 ((addr + 0#64) + 0#64) (trapZ k) = none := by rw [BitVec.add_zero, BitVec.add_zero]; exact hW
  have hn := trap_next k h addr
  have hN : (trapM k addr).n = 64 := rfl
  have hd : doesM { trapM k addr with steps := (trapM k addr).steps + 1#64 } (trapI k) = ({ trapM k addr with steps := (trapM k addr).steps + 1#64 }, some true) := by
    by_cases h7 : k < 7
    · obtain ⟨e1, e2⟩ := trap_loads k h7
      refine does_load_none (by rw [e1]; exact e2) ?_
      show whereM (trapM k addr).n ((trapM k addr).x (trapI k).rs1.toNat + (trapI k).imm) _ = none
      rw [hN, trap_addr k h, e1]; exact hW'
    · obtain ⟨e1, e2, e3⟩ := trap_stores k (by omega) h
      refine does_store_none (by rw [e1]; omega) e2 ?_
      show whereM (trapM k addr).n ((trapM k addr).x (trapI k).rs1.toNat + (trapI k).imm) _ = none
      rw [hN, trap_addr k h, e3]; exact hW'
  unfold stepM
  rw [hn]
  dsimp only
  rw [hd]
theorem trap_end_load (k : Nat) (h : k < 11) (addr v : BitVec 64) (d t : Nat → BitVec 8) : runN 2 { trapM k addr with d := d, s := t, x := updR (trapM k addr).x 6 v, pc := 65552#64, steps := 4#64 } = (2, { trapM k addr with d := d, s := t, x := updR (updR (trapM k addr).x 6 v) 17 3#64, pc := 65560#64, events := [(1#8, addr), (3#8, addr)], steps := 6#64, fin := some false }) := by
  match k, h with
  | 0, _ => exact (show runN 2 { trapM 0 addr with d := d, s := t, x := updR (trapM 0 addr).x 6 v, pc := 65552#64, steps := 4#64 } = (2, { trapM 0 addr with d := d, s := t, x := updR (updR (trapM 0 addr).x 6 v) 17 3#64, pc := 65560#64, events := [(1#8, addr), (3#8, addr)], steps := 6#64, fin := some false }) by kernel_rfl)
  | 1, _ => exact (show runN 2 { trapM 1 addr with d := d, s := t, x := updR (trapM 1 addr).x 6 v, pc := 65552#64, steps := 4#64 } = (2, { trapM 1 addr with d := d, s := t, x := updR (updR (trapM 1 addr).x 6 v) 17 3#64, pc := 65560#64, events := [(1#8, addr), (3#8, addr)], steps := 6#64, fin := some false }) by kernel_rfl)
  | 2, _ => exact (show runN 2 { trapM 2 addr with d := d, s := t, x := updR (trapM 2 addr).x 6 v, pc := 65552#64, steps := 4#64 } = (2, { trapM 2 addr with d := d, s := t, x := updR (updR (trapM 2 addr).x 6 v) 17 3#64, pc := 65560#64, events := [(1#8, addr), (3#8, addr)], steps := 6#64, fin := some false }) by kernel_rfl)
  | 3, _ => exact (show runN 2 { trapM 3 addr with d := d, s := t, x := updR (trapM 3 addr).x 6 v, pc := 65552#64, steps := 4#64 } = (2, { trapM 3 addr with d := d, s := t, x := updR (updR (trapM 3 addr).x 6 v) 17 3#64, pc := 65560#64, events := [(1#8, addr), (3#8, addr)], steps := 6#64, fin := some false }) by kernel_rfl)
  | 4, _ => exact (show runN 2 { trapM 4 addr with d := d, s := t, x := updR (trapM 4 addr).x 6 v, pc := 65552#64, steps := 4#64 } = (2, { trapM 4 addr with d := d, s := t, x := updR (updR (trapM 4 addr).x 6 v) 17 3#64, pc := 65560#64, events := [(1#8, addr), (3#8, addr)], steps := 6#64, fin := some false }) by kernel_rfl)
  | 5, _ => exact (show runN 2 { trapM 5 addr with d := d, s := t, x := updR (trapM 5 addr).x 6 v, pc := 65552#64, steps := 4#64 } = (2, { trapM 5 addr with d := d, s := t, x := updR (updR (trapM 5 addr).x 6 v) 17 3#64, pc := 65560#64, events := [(1#8, addr), (3#8, addr)], steps := 6#64, fin := some false }) by kernel_rfl)
  | 6, _ => exact (show runN 2 { trapM 6 addr with d := d, s := t, x := updR (trapM 6 addr).x 6 v, pc := 65552#64, steps := 4#64 } = (2, { trapM 6 addr with d := d, s := t, x := updR (updR (trapM 6 addr).x 6 v) 17 3#64, pc := 65560#64, events := [(1#8, addr), (3#8, addr)], steps := 6#64, fin := some false }) by kernel_rfl)
  | 7, _ => exact (show runN 2 { trapM 7 addr with d := d, s := t, x := updR (trapM 7 addr).x 6 v, pc := 65552#64, steps := 4#64 } = (2, { trapM 7 addr with d := d, s := t, x := updR (updR (trapM 7 addr).x 6 v) 17 3#64, pc := 65560#64, events := [(1#8, addr), (3#8, addr)], steps := 6#64, fin := some false }) by kernel_rfl)
  | 8, _ => exact (show runN 2 { trapM 8 addr with d := d, s := t, x := updR (trapM 8 addr).x 6 v, pc := 65552#64, steps := 4#64 } = (2, { trapM 8 addr with d := d, s := t, x := updR (updR (trapM 8 addr).x 6 v) 17 3#64, pc := 65560#64, events := [(1#8, addr), (3#8, addr)], steps := 6#64, fin := some false }) by kernel_rfl)
  | 9, _ => exact (show runN 2 { trapM 9 addr with d := d, s := t, x := updR (trapM 9 addr).x 6 v, pc := 65552#64, steps := 4#64 } = (2, { trapM 9 addr with d := d, s := t, x := updR (updR (trapM 9 addr).x 6 v) 17 3#64, pc := 65560#64, events := [(1#8, addr), (3#8, addr)], steps := 6#64, fin := some false }) by kernel_rfl)
  | 10, _ => exact (show runN 2 { trapM 10 addr with d := d, s := t, x := updR (trapM 10 addr).x 6 v, pc := 65552#64, steps := 4#64 } = (2, { trapM 10 addr with d := d, s := t, x := updR (updR (trapM 10 addr).x 6 v) 17 3#64, pc := 65560#64, events := [(1#8, addr), (3#8, addr)], steps := 6#64, fin := some false }) by kernel_rfl)
  | n + 11, h => omega
theorem trap_end_store (k : Nat) (h : k < 11) (addr : BitVec 64) (d t : Nat → BitVec 8) : runN 2 { trapM k addr with d := d, s := t, x := (trapM k addr).x, pc := 65552#64, steps := 4#64 } = (2, { trapM k addr with d := d, s := t, x := updR ((trapM k addr).x) 17 3#64, pc := 65560#64, events := [(1#8, addr), (3#8, addr)], steps := 6#64, fin := some false }) := by
  match k, h with
  | 0, _ => exact (show runN 2 { trapM 0 addr with d := d, s := t, x := (trapM 0 addr).x, pc := 65552#64, steps := 4#64 } = (2, { trapM 0 addr with d := d, s := t, x := updR ((trapM 0 addr).x) 17 3#64, pc := 65560#64, events := [(1#8, addr), (3#8, addr)], steps := 6#64, fin := some false }) by kernel_rfl)
  | 1, _ => exact (show runN 2 { trapM 1 addr with d := d, s := t, x := (trapM 1 addr).x, pc := 65552#64, steps := 4#64 } = (2, { trapM 1 addr with d := d, s := t, x := updR ((trapM 1 addr).x) 17 3#64, pc := 65560#64, events := [(1#8, addr), (3#8, addr)], steps := 6#64, fin := some false }) by kernel_rfl)
  | 2, _ => exact (show runN 2 { trapM 2 addr with d := d, s := t, x := (trapM 2 addr).x, pc := 65552#64, steps := 4#64 } = (2, { trapM 2 addr with d := d, s := t, x := updR ((trapM 2 addr).x) 17 3#64, pc := 65560#64, events := [(1#8, addr), (3#8, addr)], steps := 6#64, fin := some false }) by kernel_rfl)
  | 3, _ => exact (show runN 2 { trapM 3 addr with d := d, s := t, x := (trapM 3 addr).x, pc := 65552#64, steps := 4#64 } = (2, { trapM 3 addr with d := d, s := t, x := updR ((trapM 3 addr).x) 17 3#64, pc := 65560#64, events := [(1#8, addr), (3#8, addr)], steps := 6#64, fin := some false }) by kernel_rfl)
  | 4, _ => exact (show runN 2 { trapM 4 addr with d := d, s := t, x := (trapM 4 addr).x, pc := 65552#64, steps := 4#64 } = (2, { trapM 4 addr with d := d, s := t, x := updR ((trapM 4 addr).x) 17 3#64, pc := 65560#64, events := [(1#8, addr), (3#8, addr)], steps := 6#64, fin := some false }) by kernel_rfl)
  | 5, _ => exact (show runN 2 { trapM 5 addr with d := d, s := t, x := (trapM 5 addr).x, pc := 65552#64, steps := 4#64 } = (2, { trapM 5 addr with d := d, s := t, x := updR ((trapM 5 addr).x) 17 3#64, pc := 65560#64, events := [(1#8, addr), (3#8, addr)], steps := 6#64, fin := some false }) by kernel_rfl)
  | 6, _ => exact (show runN 2 { trapM 6 addr with d := d, s := t, x := (trapM 6 addr).x, pc := 65552#64, steps := 4#64 } = (2, { trapM 6 addr with d := d, s := t, x := updR ((trapM 6 addr).x) 17 3#64, pc := 65560#64, events := [(1#8, addr), (3#8, addr)], steps := 6#64, fin := some false }) by kernel_rfl)
  | 7, _ => exact (show runN 2 { trapM 7 addr with d := d, s := t, x := (trapM 7 addr).x, pc := 65552#64, steps := 4#64 } = (2, { trapM 7 addr with d := d, s := t, x := updR ((trapM 7 addr).x) 17 3#64, pc := 65560#64, events := [(1#8, addr), (3#8, addr)], steps := 6#64, fin := some false }) by kernel_rfl)
  | 8, _ => exact (show runN 2 { trapM 8 addr with d := d, s := t, x := (trapM 8 addr).x, pc := 65552#64, steps := 4#64 } = (2, { trapM 8 addr with d := d, s := t, x := updR ((trapM 8 addr).x) 17 3#64, pc := 65560#64, events := [(1#8, addr), (3#8, addr)], steps := 6#64, fin := some false }) by kernel_rfl)
  | 9, _ => exact (show runN 2 { trapM 9 addr with d := d, s := t, x := (trapM 9 addr).x, pc := 65552#64, steps := 4#64 } = (2, { trapM 9 addr with d := d, s := t, x := updR ((trapM 9 addr).x) 17 3#64, pc := 65560#64, events := [(1#8, addr), (3#8, addr)], steps := 6#64, fin := some false }) by kernel_rfl)
  | 10, _ => exact (show runN 2 { trapM 10 addr with d := d, s := t, x := (trapM 10 addr).x, pc := 65552#64, steps := 4#64 } = (2, { trapM 10 addr with d := d, s := t, x := updR ((trapM 10 addr).x) 17 3#64, pc := 65560#64, events := [(1#8, addr), (3#8, addr)], steps := 6#64, fin := some false }) by kernel_rfl)
  | n + 11, h => omega
theorem trap_put_load (k : Nat) (h : k < 7) (addr v : BitVec 64) : putM { trapM k addr with steps := (trapM k addr).steps + 1#64 } (trapI k) v (doM (trapI k).op.toNat (trapI k).imm (trapM k addr).pc ((trapM k addr).x (trapI k).rs1.toNat) ((trapM k addr).x (trapI k).rs2.toNat)).2 = { trapM k addr with d := (trapM k addr).d, s := (trapM k addr).s, x := updR (trapM k addr).x 6 v, pc := 65552#64, steps := 4#64 } := by
  match k, h with
  | 0, _ => exact (show putM { trapM 0 addr with steps := (trapM 0 addr).steps + 1#64 } (trapI 0) v (doM (trapI 0).op.toNat (trapI 0).imm (trapM 0 addr).pc ((trapM 0 addr).x (trapI 0).rs1.toNat) ((trapM 0 addr).x (trapI 0).rs2.toNat)).2 = { trapM 0 addr with d := (trapM 0 addr).d, s := (trapM 0 addr).s, x := updR (trapM 0 addr).x 6 v, pc := 65552#64, steps := 4#64 } by kernel_rfl)
  | 1, _ => exact (show putM { trapM 1 addr with steps := (trapM 1 addr).steps + 1#64 } (trapI 1) v (doM (trapI 1).op.toNat (trapI 1).imm (trapM 1 addr).pc ((trapM 1 addr).x (trapI 1).rs1.toNat) ((trapM 1 addr).x (trapI 1).rs2.toNat)).2 = { trapM 1 addr with d := (trapM 1 addr).d, s := (trapM 1 addr).s, x := updR (trapM 1 addr).x 6 v, pc := 65552#64, steps := 4#64 } by kernel_rfl)
  | 2, _ => exact (show putM { trapM 2 addr with steps := (trapM 2 addr).steps + 1#64 } (trapI 2) v (doM (trapI 2).op.toNat (trapI 2).imm (trapM 2 addr).pc ((trapM 2 addr).x (trapI 2).rs1.toNat) ((trapM 2 addr).x (trapI 2).rs2.toNat)).2 = { trapM 2 addr with d := (trapM 2 addr).d, s := (trapM 2 addr).s, x := updR (trapM 2 addr).x 6 v, pc := 65552#64, steps := 4#64 } by kernel_rfl)
  | 3, _ => exact (show putM { trapM 3 addr with steps := (trapM 3 addr).steps + 1#64 } (trapI 3) v (doM (trapI 3).op.toNat (trapI 3).imm (trapM 3 addr).pc ((trapM 3 addr).x (trapI 3).rs1.toNat) ((trapM 3 addr).x (trapI 3).rs2.toNat)).2 = { trapM 3 addr with d := (trapM 3 addr).d, s := (trapM 3 addr).s, x := updR (trapM 3 addr).x 6 v, pc := 65552#64, steps := 4#64 } by kernel_rfl)
  | 4, _ => exact (show putM { trapM 4 addr with steps := (trapM 4 addr).steps + 1#64 } (trapI 4) v (doM (trapI 4).op.toNat (trapI 4).imm (trapM 4 addr).pc ((trapM 4 addr).x (trapI 4).rs1.toNat) ((trapM 4 addr).x (trapI 4).rs2.toNat)).2 = { trapM 4 addr with d := (trapM 4 addr).d, s := (trapM 4 addr).s, x := updR (trapM 4 addr).x 6 v, pc := 65552#64, steps := 4#64 } by kernel_rfl)
  | 5, _ => exact (show putM { trapM 5 addr with steps := (trapM 5 addr).steps + 1#64 } (trapI 5) v (doM (trapI 5).op.toNat (trapI 5).imm (trapM 5 addr).pc ((trapM 5 addr).x (trapI 5).rs1.toNat) ((trapM 5 addr).x (trapI 5).rs2.toNat)).2 = { trapM 5 addr with d := (trapM 5 addr).d, s := (trapM 5 addr).s, x := updR (trapM 5 addr).x 6 v, pc := 65552#64, steps := 4#64 } by kernel_rfl)
  | 6, _ => exact (show putM { trapM 6 addr with steps := (trapM 6 addr).steps + 1#64 } (trapI 6) v (doM (trapI 6).op.toNat (trapI 6).imm (trapM 6 addr).pc ((trapM 6 addr).x (trapI 6).rs1.toNat) ((trapM 6 addr).x (trapI 6).rs2.toNat)).2 = { trapM 6 addr with d := (trapM 6 addr).d, s := (trapM 6 addr).s, x := updR (trapM 6 addr).x 6 v, pc := 65552#64, steps := 4#64 } by kernel_rfl)
  | n + 7, h => omega
theorem trap_put_store (k : Nat) (h7 : 7 ≤ k) (h : k < 11) (addr : BitVec 64) (d t : Nat → BitVec 8) : putM { { trapM k addr with steps := (trapM k addr).steps + 1#64 } with d := d, s := t } (trapI k) (doM (trapI k).op.toNat (trapI k).imm (trapM k addr).pc ((trapM k addr).x (trapI k).rs1.toNat) ((trapM k addr).x (trapI k).rs2.toNat)).1 (doM (trapI k).op.toNat (trapI k).imm (trapM k addr).pc ((trapM k addr).x (trapI k).rs1.toNat) ((trapM k addr).x (trapI k).rs2.toNat)).2 = { trapM k addr with d := d, s := t, x := (trapM k addr).x, pc := 65552#64, steps := 4#64 } := by
  have hk : k = 7 ∨ k = 8 ∨ k = 9 ∨ k = 10 := by omega
  rcases hk with rfl | rfl | rfl | rfl
  · exact (show putM { { trapM 7 addr with steps := (trapM 7 addr).steps + 1#64 } with d := d, s := t } (trapI 7) (doM (trapI 7).op.toNat (trapI 7).imm (trapM 7 addr).pc ((trapM 7 addr).x (trapI 7).rs1.toNat) ((trapM 7 addr).x (trapI 7).rs2.toNat)).1 (doM (trapI 7).op.toNat (trapI 7).imm (trapM 7 addr).pc ((trapM 7 addr).x (trapI 7).rs1.toNat) ((trapM 7 addr).x (trapI 7).rs2.toNat)).2 = { trapM 7 addr with d := d, s := t, x := (trapM 7 addr).x, pc := 65552#64, steps := 4#64 } by kernel_rfl)
  · exact (show putM { { trapM 8 addr with steps := (trapM 8 addr).steps + 1#64 } with d := d, s := t } (trapI 8) (doM (trapI 8).op.toNat (trapI 8).imm (trapM 8 addr).pc ((trapM 8 addr).x (trapI 8).rs1.toNat) ((trapM 8 addr).x (trapI 8).rs2.toNat)).1 (doM (trapI 8).op.toNat (trapI 8).imm (trapM 8 addr).pc ((trapM 8 addr).x (trapI 8).rs1.toNat) ((trapM 8 addr).x (trapI 8).rs2.toNat)).2 = { trapM 8 addr with d := d, s := t, x := (trapM 8 addr).x, pc := 65552#64, steps := 4#64 } by kernel_rfl)
  · exact (show putM { { trapM 9 addr with steps := (trapM 9 addr).steps + 1#64 } with d := d, s := t } (trapI 9) (doM (trapI 9).op.toNat (trapI 9).imm (trapM 9 addr).pc ((trapM 9 addr).x (trapI 9).rs1.toNat) ((trapM 9 addr).x (trapI 9).rs2.toNat)).1 (doM (trapI 9).op.toNat (trapI 9).imm (trapM 9 addr).pc ((trapM 9 addr).x (trapI 9).rs1.toNat) ((trapM 9 addr).x (trapI 9).rs2.toNat)).2 = { trapM 9 addr with d := d, s := t, x := (trapM 9 addr).x, pc := 65552#64, steps := 4#64 } by kernel_rfl)
  · exact (show putM { { trapM 10 addr with steps := (trapM 10 addr).steps + 1#64 } with d := d, s := t } (trapI 10) (doM (trapI 10).op.toNat (trapI 10).imm (trapM 10 addr).pc ((trapM 10 addr).x (trapI 10).rs1.toNat) ((trapM 10 addr).x (trapI 10).rs2.toNat)).1 (doM (trapI 10).op.toNat (trapI 10).imm (trapM 10 addr).pc ((trapM 10 addr).x (trapI 10).rs1.toNat) ((trapM 10 addr).x (trapI 10).rs2.toNat)).2 = { trapM 10 addr with d := d, s := t, x := (trapM 10 addr).x, pc := 65552#64, steps := 4#64 } by kernel_rfl)
theorem trap_some_step (k : Nat) (h : k < 11) (addr : BitVec 64) {q : Bool} {o : Nat} (hW : whereM 64 addr (trapZ k) = some (q, o)) :
    ∃ d t v, stepM (trapM k addr) = { trapM k addr with d := d, s := t, x := updR (trapM k addr).x 6 v, pc := 65552#64, steps := 4#64 } ∨ stepM (trapM k addr) = { trapM k addr with d := d, s := t, x := (trapM k addr).x, pc := 65552#64, steps := 4#64 } := by
  have hW' : whereM 64 ((addr + 0#64) + 0#64) (trapZ k) = some (q, o) := by rw [BitVec.add_zero, BitVec.add_zero]; exact hW
  have hn := trap_next k h addr
  have hN : (trapM k addr).n = 64 := rfl
  by_cases h7 : k < 7
  · obtain ⟨e1, e2⟩ := trap_loads k h7
    obtain ⟨v, hd⟩ := does_load_some (M := { trapM k addr with steps := (trapM k addr).steps + 1#64 }) (a := trapI k) (k := q) (o := o) (by rw [e1]; exact e2) (by
      show whereM (trapM k addr).n ((trapM k addr).x (trapI k).rs1.toNat + (trapI k).imm) _ = some (q, o)
      rw [hN, trap_addr k h, e1]; exact hW')
    refine ⟨(trapM k addr).d, (trapM k addr).s, v, .inl ?_⟩
    unfold stepM
    rw [hn]
    dsimp only
    rw [hd]
    have hp := trap_put_load k h7 addr v
    dsimp only at hp ⊢
    rw [hp]; rfl
  · obtain ⟨e1, e2, e3⟩ := trap_stores k (by omega) h
    obtain ⟨d, t, hd⟩ := does_store_some (M := { trapM k addr with steps := (trapM k addr).steps + 1#64 }) (a := trapI k) (k := q) (o := o) (by rw [e1]; omega) e2 (by
      show whereM (trapM k addr).n ((trapM k addr).x (trapI k).rs1.toNat + (trapI k).imm) _ = some (q, o)
      rw [hN, trap_addr k h, e3]; exact hW')
    refine ⟨d, t, 0#64, .inr ?_⟩
    unfold stepM
    rw [hn]
    dsimp only
    rw [hd]
    have hp := trap_put_store k (by omega) h addr d t
    dsimp only at hp ⊢
    rw [hp]; rfl
theorem trap_no (k : Nat) (h : k < 11) (addr : BitVec 64) (hW : whereM 64 addr (trapZ k) = none) :
    ∃ M, runN 100 (newM (trapImg k) [addr]) = (4, M) ∧ M.fin = some true ∧ M.x 5 = addr ∧ M.x 6 = 0#64 ∧ M.d = (fun _ => 0#8) ∧ M.n = 64 := by
  have e3 := trap_three k h addr
  have hf : (trapM k addr).fin = none := rfl
  rw [show (100 : Nat) = 3 + 97 from rfl, runN_add, e3]
  dsimp only
  rw [runN_go hf, trap_none_step k h addr hW, runN_end rfl]
  exact ⟨_, rfl, rfl, BitVec.add_zero addr, rfl, rfl, rfl⟩
theorem trap_yes (k : Nat) (h : k < 11) (addr : BitVec 64) {q : Bool} {o : Nat} (hW : whereM 64 addr (trapZ k) = some (q, o)) :
    ∃ M, runN 100 (newM (trapImg k) [addr]) = (6, M) ∧ M.fin = some false ∧ M.x 5 = addr := by
  have e3 := trap_three k h addr
  have hf : (trapM k addr).fin = none := rfl
  rw [show (100 : Nat) = 3 + 97 from rfl, runN_add, e3]
  dsimp only
  rw [runN_go hf]
  obtain ⟨d, t, v, hs | hs⟩ := trap_some_step k h addr hW
  · rw [hs, show (96 : Nat) = 2 + 94 from rfl, runN_add, trap_end_load k h addr v d t]
    dsimp only
    rw [runN_end rfl]
    exact ⟨_, rfl, rfl, BitVec.add_zero addr⟩
  · rw [hs, show (96 : Nat) = 2 + 94 from rfl, runN_add, trap_end_store k h addr d t]
    dsimp only
    rw [runN_end rfl]
    exact ⟨_, rfl, rfl, BitVec.add_zero addr⟩
end Go.Proofs.S
end
section
namespace Go.Ux.Mach
open Go Go.Ux
def refCells (cv dv sv iv : Value) (x : Nat → BitVec 64) (pc : BitVec 64) (ev : Value) (en tr : Bool) (st : Value) : Array Value := #[cv, dv, sv, iv, U64 (x 0), U64 (x 1), U64 (x 2), U64 (x 3), U64 (x 4), U64 (x 5), U64 (x 6), U64 (x 7), U64 (x 8), U64 (x 9), U64 (x 10), U64 (x 11), U64 (x 12), U64 (x 13), U64 (x 14), U64 (x 15), U64 (x 16), U64 (x 17), U64 (x 18), U64 (x 19), U64 (x 20), U64 (x 21), U64 (x 22), U64 (x 23), U64 (x 24), U64 (x 25), U64 (x 26), U64 (x 27), U64 (x 28), U64 (x 29), U64 (x 30), U64 (x 31), U64 pc, ev, .bool en, .bool tr, st]
def whereR (n : Nat) (addr : BitVec 64) (size : Nat) : Nat × Nat :=
  if addr.toNat % size ≠ 0 then (0, 0)
  else if 4194304 ≤ addr.toNat ∧ addr.toNat < 4194304 + n ∧ addr.toNat + size ≤ 4194304 + n then (1, addr.toNat - 4194304)
  else if 8323072 ≤ addr.toNat ∧ addr.toNat < 8388608 then (2, addr.toNat - 8323072)
  else (0, 0)
theorem whereR_eq (n : Nat) (addr : BitVec 64) (size : Nat) (h : size = 1 ∨ size = 2 ∨ size = 4 ∨ size = 8) :
    whereR n addr size = match whereM n addr size with
      | none => (0, 0)
      | some (true, o) => (1, o)
      | some (false, o) => (2, o) := by
  unfold whereR whereM
  by_cases h1 : addr.toNat % size ≠ 0
  · rw [if_pos h1, if_pos h1]
  rw [if_neg h1, if_neg h1]
  have hs : 0 < size := by omega
  by_cases h2 : 4194304 ≤ addr.toNat ∧ addr.toNat < 4194304 + n ∧ addr.toNat + size ≤ 4194304 + n
  · rw [if_pos h2, if_pos (show 4194304 ≤ addr.toNat ∧ addr.toNat - 4194304 < n ∧ size ≤ n - (addr.toNat - 4194304) by omega)]
  rw [if_neg h2, if_neg (show ¬ (4194304 ≤ addr.toNat ∧ addr.toNat - 4194304 < n ∧ size ≤ n - (addr.toNat - 4194304)) by omega)]
  by_cases h3 : 8323072 ≤ addr.toNat ∧ addr.toNat < 8388608
  · have h1' : addr.toNat % size = 0 := by omega
    have h4 : 8323072 ≤ addr.toNat ∧ addr.toNat - 8323072 < 65536 ∧ size ≤ 65536 - (addr.toNat - 8323072) := by
      rcases h with rfl | rfl | rfl | rfl <;> omega
    rw [if_pos h3, if_pos h4]
  · rw [if_neg h3, if_neg (show ¬ (8323072 ≤ addr.toNat ∧ addr.toNat - 8323072 < 65536 ∧ size ≤ 65536 - (addr.toNat - 8323072)) by omega)]
def loadT (f : Nat → BitVec 8) (o size : Nat) : Nat → BitVec 64
  | 0 => 0#64
  | k + 1 => (loadT f o size k <<< 8) + (f (o + (size - 1 - k))).setWidth 64
end Go.Ux.Mach
end
section
set_option linter.unusedSimpArgs false
set_option linter.unusedVariables false
namespace Go.Proofs.S
open Go Go.Ux Go.Ux.Mach Go.Proofs
theorem fo70_1 : fieldOff Tryz.prog 70 1 = some 1 := by kernel_rfl
theorem sub_toNat {a c : BitVec 64} (h : c.toNat ≤ a.toNat) : (a - c).toNat = a.toNat - c.toNat := by
  have h1 := a.isLt; have h2 := c.isLt
  rw [BitVec.toNat_sub, show 2 ^ 64 - c.toNat + a.toNat = 2 ^ 64 + (a.toNat - c.toNat) by omega, Nat.add_mod_left, Nat.mod_eq_of_lt (by omega)]
theorem size64 {size : Nat} (h : size = 1 ∨ size = 2 ∨ size = 4 ∨ size = 8) : (BitVec.ofNat 64 size).toNat = size := by rw [BitVec.toNat_ofNat]; omega
theorem rem_zero {addr : BitVec 64} {size : Nat} (h : size = 1 ∨ size = 2 ∨ size = 4 ∨ size = 8) : (addr % BitVec.ofNat 64 size != 0#64) = decide (addr.toNat % size ≠ 0) := by
  have e : (addr % BitVec.ofNat 64 size).toNat = addr.toNat % size := by rw [BitVec.toNat_umod, size64 h]
  rw [← e]
  by_cases h0 : addr % BitVec.ofNat 64 size = 0#64
  · rw [h0]; rfl
  · have h1 : (addr % BitVec.ofNat 64 size).toNat ≠ 0 := fun k => h0 (BitVec.eq_of_toNat_eq k)
    rw [decide_eq_true h1]; simpa using h0
theorem end64 {n : Nat} (hn : n ≤ 524288) : (4194304#64 + BitVec.ofNat 64 n).toNat = 4194304 + n := by rw [BitVec.toNat_add, BitVec.toNat_ofNat, BitVec.toNat_ofNat]; omega
theorem add64 {addr : BitVec 64} {size n : Nat} (h : size = 1 ∨ size = 2 ∨ size = 4 ∨ size = 8) (h1 : addr.toNat < 4194304 + n) (hn : n ≤ 524288) : (addr + BitVec.ofNat 64 size).toNat = addr.toNat + size := by rw [BitVec.toNat_add, size64 h]; omega
theorem data_b {addr : BitVec 64} {size n : Nat} (h : size = 1 ∨ size = 2 ∨ size = 4 ∨ size = 8) (hn : n ≤ 524288) :
    (BitVec.ule 4194304#64 addr && (BitVec.ult addr (4194304#64 + BitVec.ofNat 64 n) && BitVec.ule (addr + BitVec.ofNat 64 size) (4194304#64 + BitVec.ofNat 64 n))) = decide (4194304 ≤ addr.toNat ∧ addr.toNat < 4194304 + n ∧ addr.toNat + size ≤ 4194304 + n) := by
  have e0 : (4194304#64).toNat = 4194304 := rfl
  simp only [BitVec.ule, BitVec.ult, end64 hn, e0, Bool.decide_and]
  by_cases h1 : addr.toNat < 4194304 + n
  · rw [add64 h h1 hn]
  · rw [decide_eq_false h1]; simp
theorem stack_b {addr : BitVec 64} : (BitVec.ule 8323072#64 addr && BitVec.ult addr 8388608#64) = decide (8323072 ≤ addr.toNat ∧ addr.toNat < 8388608) := by
  have e0 : (8323072#64).toNat = 8323072 := rfl
  have e1 : (8388608#64).toNat = 8388608 := rfl
  simp only [BitVec.ule, BitVec.ult, e0, e1, Bool.decide_and]
set_option maxRecDepth 100000 in
theorem where_r (addr : BitVec 64) (size : Nat) (b : Nat) (cv dv sv iv : Value) (x : Nat → BitVec 64) (pc : BitVec 64) (ev : Value) (en tr : Bool) (st : Value) (n : Nat) (d t : Nat → BitVec 8) (w : World) (hB : Blk w b (refCells cv dv sv iv x pc ev en tr st) 70) (hD : Sl w dv 1 n (bsV d n)) (hn : n ≤ 524288) (hz : size = 1 ∨ size = 2 ∨ size = 4 ∨ size = 8) : CallsR Tryz.prog 38 #[ptr b 0, U64 (addr), IN (size)] w (fun v w' => v = .tuple #[IN (whereR n addr size).1, IN (whereR n addr size).2] ∧ Ext w w') := by
  have hb1 : (4194304#64).toNat = 4194304 := rfl; have hb2 : (8323072#64).toNat = 8323072 := rfl; have hb3 : (8388608#64).toNat = 8388608 := rfl
  refine callsR_of Tryz.func38 rfl rfl rfl ?_
  refine WC.seq (WC.region (WL.assign (v := IN (0)) rfl rfl (WL.assign (v := IN (0)) rfl rfl (WL.nil (WC.seq (WC.seq (WC.region (WL.move (v := U64 (addr)) rfl rfl (WL.move (v := IN (size)) rfl rfl ?_)))))))))
  refine WL.conv rfl rfl (ConvR.nu64 Tryz.underlying3 Tryz.underlying39) (WL.bin rfl rfl rfl (BinR.remU64 (fun e => by have h := congrArg BitVec.toNat e; rw [size64 hz] at h; have h0 : (0#64).toNat = 0 := rfl; omega)) (WL.bin rfl (vy := U64 (0#64)) rfl rfl (BinR.neqU64) (WL.nil ?_)))
  refine WC.cond rfl (fun hc12 => ?_) (fun hc12 => ?_)
  · have k1 : addr.toNat % size ≠ 0 := of_decide_eq_true ((rem_zero hz).symm.trans hc12)
    refine WC.seq (WC.region (WL.assign (v := IN (0)) rfl rfl (WL.assign (v := IN (0)) rfl rfl (WL.nil (WC.ret ?_)))))
    have hfin : (.tuple #[(IN (0)), (IN (0))] : Value) = .tuple #[IN (whereR n addr size).1, IN (whereR n addr size).2] := by
      unfold whereR
      first
      | (rw [if_pos k1])
      | (rw [if_neg k1, if_pos k2, sub_toNat (by omega)]; rfl)
      | (rw [if_neg k1, if_neg k2, if_pos k3, sub_toNat (by omega)]; rfl)
      | (rw [if_neg k1, if_neg k2, if_neg k3])
    exact ⟨_, Res.two (v := IN (0)) (v' := IN (0)) rfl rfl rfl, hfin, Mod.refl _ _⟩
  · have k1 : ¬ addr.toNat % size ≠ 0 := of_decide_eq_false ((rem_zero hz).symm.trans hc12)
    refine WC.skip (WC.seq (WC.seq ?_))
    refine WC.cut (fun f' w_ => f' 0 = ptr b 0 ∧ f' 1 = U64 (addr) ∧ f' 2 = IN (size) ∧ f' 6 = IN (0) ∧ f' 7 = IN (0) ∧ f' 8 = U64 (addr) ∧ f' 9 = IN (size) ∧ f' 10 = U64 (BitVec.ofNat 64 (size)) ∧ f' 11 = U64 ((addr % BitVec.ofNat 64 size)) ∧ f' 12 = .bool (((addr % BitVec.ofNat 64 size) != 0#64)) ∧ f' 39 = .bool (decide (4194304 ≤ addr.toNat ∧ addr.toNat < 4194304 + n ∧ addr.toNat + size ≤ 4194304 + n)) ∧ w = w_) ?_ ?_
    · refine WC.region (WL.move (v := U64 (addr)) rfl rfl (WL.bin rfl (vy := U64 (4194304#64)) rfl rfl (BinR.geqU64) (WL.move (v := .bool (BitVec.ule (4194304#64) (addr))) rfl rfl ?_)))
      rcases Bool.eq_false_or_eq_true (BitVec.ule (4194304#64) (addr)) with hg15 | hg15
      · refine WL.guardT (yf_bool rfl rfl hg15) (WL.move (v := U64 (addr)) rfl rfl (WL.guardT (yf_bool rfl rfl hg15) (WL.move (v := ptr b 0) rfl rfl (WL.guardT (yf_bool rfl rfl hg15) (WL.nilCheck rfl rfl (WL.guardT (yf_bool rfl rfl hg15) (WL.fieldAddr rfl fo70_1 rfl (WL.guardT (yf_bool rfl rfl hg15) (WL.load1 rfl ag45 ((hB).cell (j := 1) rfl) rfl ?_)))))))))
        refine WL.guardT (yf_bool rfl rfl hg15) (WL.lenSl (sz := 1) (m := n) (xs := bsV d n) el45 rfl (hD) rfl (WL.guardT (yf_bool rfl rfl hg15) (WL.conv rfl rfl (ConvR.nu64 Tryz.underlying3 Tryz.underlying39) (WL.guardT (yf_bool rfl rfl hg15) (WL.bin (vx := U64 (4194304#64)) rfl rfl rfl (BinR.addU64) (WL.guardT (yf_bool rfl rfl hg15) (WL.bin rfl rfl rfl (BinR.lssU64) (WL.pick (b := true) (congrArg Value.bool hg15) rfl rfl (WL.move (v := .bool (BitVec.ult (addr) ((4194304#64 + BitVec.ofNat 64 (n))))) rfl rfl ?_)))))))))
        rcases Bool.eq_false_or_eq_true (BitVec.ult (addr) ((4194304#64 + BitVec.ofNat 64 (n)))) with hg26 | hg26
        · refine WL.guardT (yf_bool rfl rfl hg26) (WL.move (v := U64 (addr)) rfl rfl (WL.guardT (yf_bool rfl rfl hg26) (WL.move (v := IN (size)) rfl rfl (WL.guardT (yf_bool rfl rfl hg26) (WL.conv rfl rfl (ConvR.nu64 Tryz.underlying3 Tryz.underlying39) (WL.guardT (yf_bool rfl rfl hg26) (WL.bin rfl rfl rfl (BinR.addU64) (WL.guardT (yf_bool rfl rfl hg26) (WL.move (v := ptr b 0) rfl rfl ?_)))))))))
          refine WL.guardT (yf_bool rfl rfl hg26) (WL.nilCheck rfl rfl (WL.guardT (yf_bool rfl rfl hg26) (WL.fieldAddr rfl fo70_1 rfl (WL.guardT (yf_bool rfl rfl hg26) (WL.load1 rfl ag45 ((hB).cell (j := 1) rfl) rfl (WL.guardT (yf_bool rfl rfl hg26) (WL.lenSl (sz := 1) (m := n) (xs := bsV d n) el45 rfl (hD) rfl (WL.guardT (yf_bool rfl rfl hg26) (WL.conv rfl rfl (ConvR.nu64 Tryz.underlying3 Tryz.underlying39) ?_)))))))))
          refine WL.guardT (yf_bool rfl rfl hg26) (WL.bin (vx := U64 (4194304#64)) rfl rfl rfl (BinR.addU64) (WL.guardT (yf_bool rfl rfl hg26) (WL.bin rfl rfl rfl (BinR.leqU64) (WL.pick (b := true) (congrArg Value.bool hg26) rfl rfl (WL.nil ?_)))))
          have hcut : (BitVec.ule ((addr + BitVec.ofNat 64 (size))) ((4194304#64 + BitVec.ofNat 64 (n)))) = decide (4194304 ≤ addr.toNat ∧ addr.toNat < 4194304 + n ∧ addr.toNat + size ≤ 4194304 + n) := by rw [← data_b hz hn]; simp only [*, Bool.false_and, Bool.true_and, Bool.and_false, Bool.and_true]
          exact ⟨rfl, rfl, rfl, rfl, rfl, rfl, rfl, rfl, rfl, rfl, rfl, congrArg Value.bool hcut, rfl⟩
        · refine WL.guardF (b' := false) (yf_bool rfl rfl hg26) rfl rfl (WL.guardF (b' := false) (yf_bool rfl rfl hg26) rfl rfl (WL.guardF (b' := false) (yf_bool rfl rfl hg26) rfl rfl (WL.guardF (b' := false) (yf_bool rfl rfl hg26) rfl rfl (WL.guardF (b' := false) (yf_bool rfl rfl hg26) rfl rfl (WL.guardF (b' := false) (yf_bool rfl rfl hg26) rfl rfl (WL.guardF (b' := false) (yf_bool rfl rfl hg26) rfl rfl (WL.guardF (b' := false) (yf_bool rfl rfl hg26) rfl rfl (WL.guardF (b' := false) (yf_bool rfl rfl hg26) rfl rfl (WL.guardF (b' := false) (yf_bool rfl rfl hg26) rfl rfl ?_)))))))))
          refine WL.guardF (b' := false) (yf_bool rfl rfl hg26) rfl rfl (WL.guardF (b' := false) (yf_bool rfl rfl hg26) rfl rfl (WL.pick (b := false) (congrArg Value.bool hg26) rfl rfl (WL.nil ?_)))
          have hcut : (false) = decide (4194304 ≤ addr.toNat ∧ addr.toNat < 4194304 + n ∧ addr.toNat + size ≤ 4194304 + n) := by rw [← data_b hz hn]; simp only [*, Bool.false_and, Bool.true_and, Bool.and_false, Bool.and_true]
          exact ⟨rfl, rfl, rfl, rfl, rfl, rfl, rfl, rfl, rfl, rfl, rfl, congrArg Value.bool hcut, rfl⟩
      · refine WL.guardF (b' := false) (yf_bool rfl rfl hg15) rfl rfl (WL.guardF (b' := false) (yf_bool rfl rfl hg15) rfl rfl (WL.guardF (b' := false) (yf_bool rfl rfl hg15) rfl rfl (WL.guardF (b' := false) (yf_bool rfl rfl hg15) rfl rfl (WL.guardF (b' := false) (yf_bool rfl rfl hg15) rfl rfl (WL.guardF (b' := false) (yf_bool rfl rfl hg15) rfl rfl (WL.guardF (b' := false) (yf_bool rfl rfl hg15) rfl rfl (WL.guardF (b' := false) (yf_bool rfl rfl hg15) rfl rfl (WL.guardF (b' := false) (yf_bool rfl rfl hg15) rfl rfl (WL.pick (b := false) (congrArg Value.bool hg15) rfl rfl ?_)))))))))
        refine WL.move (v := .bool (false)) rfl rfl (WL.guardF (b' := false) (rfl) rfl rfl (WL.guardF (b' := false) (rfl) rfl rfl (WL.guardF (b' := false) (rfl) rfl rfl (WL.guardF (b' := false) (rfl) rfl rfl (WL.guardF (b' := false) (rfl) rfl rfl (WL.guardF (b' := false) (rfl) rfl rfl (WL.guardF (b' := false) (rfl) rfl rfl (WL.guardF (b' := false) (rfl) rfl rfl (WL.guardF (b' := false) (rfl) rfl rfl ?_)))))))))
        refine WL.guardF (b' := false) (rfl) rfl rfl (WL.guardF (b' := false) (rfl) rfl rfl (WL.guardF (b' := false) (rfl) rfl rfl (WL.pick (b := false) rfl rfl rfl (WL.nil ?_))))
        have hcut : (false) = decide (4194304 ≤ addr.toNat ∧ addr.toNat < 4194304 + n ∧ addr.toNat + size ≤ 4194304 + n) := by rw [← data_b hz hn]; simp only [*, Bool.false_and, Bool.true_and, Bool.and_false, Bool.and_true]
        exact ⟨rfl, rfl, rfl, rfl, rfl, rfl, rfl, rfl, rfl, rfl, rfl, congrArg Value.bool hcut, rfl⟩
    rintro fc3 _ ⟨hc3_0, hc3_1, hc3_2, hc3_6, hc3_7, hc3_8, hc3_9, hc3_10, hc3_11, hc3_12, hc3_39, rfl⟩
    refine WC.cond hc3_39 (fun hc39 => ?_) (fun hc39 => ?_)
    · have k2 := of_decide_eq_true hc39
      refine WC.seq (WC.region (WL.move (v := U64 (addr)) hc3_1 rfl (WL.bin rfl (vy := U64 (4194304#64)) rfl rfl (BinR.subU64) (WL.conv rfl rfl (ConvR.toI Tryz.underlying39 Tryz.underlying3 (by rw [sub_toNat (by omega)]; omega)) (WL.assign (v := IN (1)) rfl rfl (WL.assign (v := IN ((addr - 4194304#64).toNat)) rfl rfl (WL.nil (WC.ret ?_))))))))
      have hfin : (.tuple #[(IN (1)), (IN ((addr - 4194304#64).toNat))] : Value) = .tuple #[IN (whereR n addr size).1, IN (whereR n addr size).2] := by
        unfold whereR
        first
        | (rw [if_pos k1])
        | (rw [if_neg k1, if_pos k2, sub_toNat (by omega)]; rfl)
        | (rw [if_neg k1, if_neg k2, if_pos k3, sub_toNat (by omega)]; rfl)
        | (rw [if_neg k1, if_neg k2, if_neg k3])
      exact ⟨_, Res.two (v := IN (1)) (v' := IN ((addr - 4194304#64).toNat)) rfl rfl rfl, hfin, Mod.refl _ _⟩
    · have k2 := of_decide_eq_false hc39
      refine WC.skip (WC.seq (WC.seq ?_))
      refine WC.cut (fun f' w_ => f' 0 = ptr b 0 ∧ f' 1 = U64 (addr) ∧ f' 2 = IN (size) ∧ f' 6 = IN (0) ∧ f' 7 = IN (0) ∧ f' 8 = U64 (addr) ∧ f' 9 = IN (size) ∧ f' 10 = U64 (BitVec.ofNat 64 (size)) ∧ f' 11 = U64 ((addr % BitVec.ofNat 64 size)) ∧ f' 12 = .bool (((addr % BitVec.ofNat 64 size) != 0#64)) ∧ f' 39 = .bool (decide (4194304 ≤ addr.toNat ∧ addr.toNat < 4194304 + n ∧ addr.toNat + size ≤ 4194304 + n)) ∧ f' 48 = .bool (decide (8323072 ≤ addr.toNat ∧ addr.toNat < 8388608)) ∧ w = w_) ?_ ?_
      · refine WC.region (WL.move (v := U64 (addr)) hc3_1 rfl (WL.bin rfl (vy := U64 (8323072#64)) rfl rfl (BinR.geqU64) (WL.move (v := .bool (BitVec.ule (8323072#64) (addr))) rfl rfl ?_)))
        rcases Bool.eq_false_or_eq_true (BitVec.ule (8323072#64) (addr)) with hg45 | hg45
        · refine WL.guardT (yf_bool rfl rfl hg45) (WL.move (v := U64 (addr)) hc3_1 rfl (WL.guardT (yf_bool rfl rfl hg45) (WL.bin rfl (vy := U64 (8388608#64)) rfl rfl (BinR.lssU64) (WL.pick (b := true) (congrArg Value.bool hg45) rfl rfl (WL.nil ?_)))))
          have hcut : (BitVec.ult (addr) (8388608#64)) = decide (8323072 ≤ addr.toNat ∧ addr.toNat < 8388608) := by rw [← stack_b]; simp only [*, Bool.false_and, Bool.true_and, Bool.and_false, Bool.and_true]
          exact ⟨rfl, hc3_0, hc3_1, hc3_2, hc3_6, hc3_7, hc3_8, hc3_9, hc3_10, hc3_11, hc3_12, hc3_39, congrArg Value.bool hcut, rfl⟩
        · refine WL.guardF (b' := false) (yf_bool rfl rfl hg45) rfl rfl (WL.guardF (b' := false) (yf_bool rfl rfl hg45) rfl rfl (WL.pick (b := false) (congrArg Value.bool hg45) rfl rfl (WL.nil ?_)))
          have hcut : (false) = decide (8323072 ≤ addr.toNat ∧ addr.toNat < 8388608) := by rw [← stack_b]; simp only [*, Bool.false_and, Bool.true_and, Bool.and_false, Bool.and_true]
          exact ⟨rfl, hc3_0, hc3_1, hc3_2, hc3_6, hc3_7, hc3_8, hc3_9, hc3_10, hc3_11, hc3_12, hc3_39, congrArg Value.bool hcut, rfl⟩
      rintro fc5 _ ⟨hc5_0, hc5_1, hc5_2, hc5_6, hc5_7, hc5_8, hc5_9, hc5_10, hc5_11, hc5_12, hc5_39, hc5_48, rfl⟩
      refine WC.cond hc5_48 (fun hc48 => ?_) (fun hc48 => ?_)
      · have k3 := of_decide_eq_true hc48
        refine WC.seq (WC.region (WL.move (v := U64 (addr)) hc5_1 rfl (WL.bin rfl (vy := U64 (8323072#64)) rfl rfl (BinR.subU64) (WL.conv rfl rfl (ConvR.toI Tryz.underlying39 Tryz.underlying3 (by rw [sub_toNat (by omega)]; omega)) (WL.assign (v := IN (2)) rfl rfl (WL.assign (v := IN ((addr - 8323072#64).toNat)) rfl rfl (WL.nil (WC.ret ?_))))))))
        have hfin : (.tuple #[(IN (2)), (IN ((addr - 8323072#64).toNat))] : Value) = .tuple #[IN (whereR n addr size).1, IN (whereR n addr size).2] := by
          unfold whereR
          first
          | (rw [if_pos k1])
          | (rw [if_neg k1, if_pos k2, sub_toNat (by omega)]; rfl)
          | (rw [if_neg k1, if_neg k2, if_pos k3, sub_toNat (by omega)]; rfl)
          | (rw [if_neg k1, if_neg k2, if_neg k3])
        exact ⟨_, Res.two (v := IN (2)) (v' := IN ((addr - 8323072#64).toNat)) rfl rfl rfl, hfin, Mod.refl _ _⟩
      · have k3 := of_decide_eq_false hc48
        refine WC.skip (WC.seq (WC.region (WL.assign (v := IN (0)) rfl rfl (WL.assign (v := IN (0)) rfl rfl (WL.nil (WC.ret ?_))))))
        have hfin : (.tuple #[(IN (0)), (IN (0))] : Value) = .tuple #[IN (whereR n addr size).1, IN (whereR n addr size).2] := by
          unfold whereR
          first
          | (rw [if_pos k1])
          | (rw [if_neg k1, if_pos k2, sub_toNat (by omega)]; rfl)
          | (rw [if_neg k1, if_neg k2, if_pos k3, sub_toNat (by omega)]; rfl)
          | (rw [if_neg k1, if_neg k2, if_neg k3])
        exact ⟨_, Res.two (v := IN (0)) (v' := IN (0)) rfl rfl rfl, hfin, Mod.refl _ _⟩
end Go.Proofs.S
end
