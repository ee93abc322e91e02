/- Steps of the proof, packed by program: McT7 UxEv McT8 McL1 McK1 McIn McKp McKr McTr McRef McN1 McN2 McN3 McN4 MiY1 MiY4 McTq. -/
import Derived.Test.YtlabgjcjccdjfaaGreatDoorRows
import Derived.Test.YtlabgjcjccdjfaaGreatDoorMpackQ01
import Derived.Test.YtlabgjcjccdjfaaGreatDoorMpackQ02
import Derived.Test.YtlabgjcjccdjfaaGreatDoorMpackQ11
set_option linter.unusedVariables false
set_option linter.unusedSimpArgs false
set_option linter.unnecessarySimpa false
section
set_option linter.unusedSimpArgs false
set_option linter.unusedVariables false
namespace Go.Proofs.S
open Go Go.Ux Go.Ux.Mach Go.Proofs
theorem ag25 : isAggT Tryz.prog 25 = some true := by kernel_rfl
theorem sz25 : sizeT Tryz.prog 25 = some 3 := by kernel_rfl
theorem ca30 : callable Tryz.prog 30 = true := by kernel_rfl
theorem ca31 : callable Tryz.prog 31 = true := by kernel_rfl
theorem bld10_16 (a : Option Addr) (n c : Nat) : ∀ w : World, (Instr.build 85 #[(2, .slice a n c), (4, U64 (65536#64))]).run Tryz.prog w = .ok (.agg #[.slice none 0 0, .slice none 0 0, .slice a n c, .int .u64 (0), .int .u64 (0), .int .u64 (0), .int .u64 (0), .int .u64 (0), .int .u64 (0), .int .u64 (0), .int .u64 (0), .int .u64 (0), .int .u64 (0), .int .u64 (0), .int .u64 (0), .int .u64 (0), .int .u64 (0), .int .u64 (0), .int .u64 (0), .int .u64 (0), .int .u64 (0), .int .u64 (0), .int .u64 (0), .int .u64 (0), .int .u64 (0), .int .u64 (0), .int .u64 (0), .int .u64 (0), .int .u64 (0), .int .u64 (0), .int .u64 (0), .int .u64 (0), .int .u64 (0), .int .u64 (0), .int .u64 (0), U64 (65536#64), .slice none 0 0, .nilIface, IN (0)]) w := fun _ => by kernel_rfl
theorem fo25_2 : fieldOff Tryz.prog 25 2 = some 2 := by kernel_rfl
theorem ag23 : isAggT Tryz.prog 23 = some false := by kernel_rfl
theorem el23 : elemT Tryz.prog 23 = some 50 := by kernel_rfl
theorem ca32 : callable Tryz.prog 32 = true := by kernel_rfl
theorem bld10_43 (p q r s : BitVec 8) (x : BitVec 64) (k : Bool) : ∀ w : World, (Instr.build 89 #[(0, .agg #[U8 (p), U8 (q), U8 (r), U8 (s), I64 (x)]), (1, .bool (k))]).run Tryz.prog w = .ok (.agg #[U8 (p), U8 (q), U8 (r), U8 (s), I64 (x), .bool (k)]) w := fun _ => by kernel_rfl
theorem bls10_44 (p q r s : BitVec 8) (x : BitVec 64) (k : Bool) : ∀ w : World, (Instr.buildSlice 81 1 #[(0, .agg #[U8 (p), U8 (q), U8 (r), U8 (s), I64 (x), .bool (k)])]).run Tryz.prog w = .ok (.slice (some ⟨w.heap.size, 0, none⟩) 1 1) (w.alloc (.cells #[U8 (p), U8 (q), U8 (r), U8 (s), I64 (x), .bool (k)] 89)) := fun _ => by kernel_rfl
theorem ap81 : appT Tryz.prog 81 = some (89, 6, 24, #[.int .u8 0, .int .u8 0, .int .u8 0, .int .u8 0, .int .i64 0, .bool false]) := by kernel_rfl
theorem sz81 : sizeT Tryz.prog 81 = some 1 := by kernel_rfl
theorem fo25_0 : fieldOff Tryz.prog 25 0 = some 0 := by kernel_rfl
theorem ap45 : appT Tryz.prog 45 = some (5, 1, 1, #[.int .u8 0]) := by kernel_rfl
theorem bld10_53 (b n : Nat) : ∀ w : World, (Instr.build 91 #[(0, U64 (4194304#64)), (1, .slice (some ⟨b, 0, none⟩) n n)]).run Tryz.prog w = .ok (.agg #[U64 (4194304#64), .slice (some ⟨b, 0, none⟩) n n]) w := fun _ => by kernel_rfl
theorem bld10_55 (b n : Nat) : ∀ w : World, (Instr.build 91 #[(0, U64 (8323072#64)), (1, .slice (some ⟨b, 0, none⟩) n n)]).run Tryz.prog w = .ok (.agg #[U64 (8323072#64), .slice (some ⟨b, 0, none⟩) n n]) w := fun _ => by kernel_rfl
theorem bls10_56 (a b n m : Nat) : ∀ w : World, (Instr.buildSlice 80 2 #[(0, .agg #[U64 (4194304#64), .slice (some ⟨a, 0, none⟩) n n]), (1, .agg #[U64 (8323072#64), .slice (some ⟨b, 0, none⟩) m m])]).run Tryz.prog w = .ok (.slice (some ⟨w.heap.size, 0, none⟩) 2 2) (w.alloc (.cells #[U64 (4194304#64), .slice (some ⟨a, 0, none⟩) n n, U64 (8323072#64), .slice (some ⟨b, 0, none⟩) m m] 91)) := fun _ => by kernel_rfl
theorem sz80 : sizeT Tryz.prog 80 = some 1 := by kernel_rfl
open Go.Proofs.M (instV Glob findRow decodeAt decode_no decode_ok)
open Go.Ux.Image
def decI (x : BitVec 32) : RvInst := match findRow x tableD with
  | some i => decodeAt i x
  | none => ⟨0, 0, 0, 0, 0⟩
def decE (x : BitVec 32) : Nat := match findRow x tableD with
  | some _ => 0
  | none => 100
theorem decode_spec (x : BitVec 32) (w : World) (hG : Glob w) : CallsR Tryz.prog 32 #[U32 x] w (fun v w' => v = .tuple #[instV (decI x), IN (decE x)] ∧ Ext w w') := by
  unfold decI decE
  rcases h : findRow x tableD with _ | i
  · exact decode_no x w hG h
  · exact decode_ok x w hG i h
def decW (x : BitVec 32) : RvInst × Bool := (decI x, (((decE x : Nat) : Int) == (0 : Int)) && ((decI x).op != 65#8))
theorem decW_T {x : BitVec 32} (h : (((decE x : Nat) : Int) == (0 : Int)) = true) : (decW x).2 = ((decI x).op != 65#8) := by unfold decW; rw [h]; rfl
theorem decW_F {x : BitVec 32} (h : (((decE x : Nat) : Int) == (0 : Int)) = false) : (decW x).2 = false := by unfold decW; rw [h]; rfl
theorem codeV_take (l : List (BitVec 32)) (i : Nat) (h : i < l.length) : codeV ((l.take (i + 1)).map decW) = codeV ((l.take i).map decW) ++ [U8 (decI l[i]).op, U8 (decI l[i]).rd, U8 (decI l[i]).rs1, U8 (decI l[i]).rs2, I64 (decI l[i]).imm, .bool (decW l[i]).2] := by
  rw [List.take_succ_eq_append_getElem h, List.map_append]
  exact codeV_snoc _ _
def newM (I : Img) (inp : List (BitVec 64)) : MS := { n := I.entry.toNat, d := fun _ => 0#8, s := fun _ => 0#8, code := I.words.map decW, input := inp, x := fun i => if i = 2 then 8388608#64 else 0#64, pc := 65536#64, events := [], fin := none, steps := 0#64 }
theorem word_get (l : List (BitVec 32)) (i : Nat) (h : i < l.length) : (wordCells l)[i]? = some (U32 l[i]) := by simp [wordCells, h]
theorem right_facts {I : Img} (h : rightB I = true) : 0 ≤ I.entry ∧ I.entry ≤ 524288 ∧ I.words.length ≤ 262144 := by
  simp only [rightB, right2, right3, Bool.and_eq_true, decide_eq_true_eq] at h
  exact ⟨h.1.1.1.1.1, h.1.1.1.1.2, h.1.1.2.2⟩
theorem ones_I64 (l : List (BitVec 64)) : ∀ u ∈ l.map I64, u.oneCell' = true := by
  intro u hu; obtain ⟨x, _, rfl⟩ := List.mem_map.1 hu; rfl
theorem locB {w : World} {v v' : Value} {b n : Nat} (h : LocV w v v') (hB : ∀ g, v.ownBlock = some g → b < g ∧ g < n) (hb : b < w.heap.size) : ∀ g, v'.ownBlock = some g → b < g := fun g hg => by
  rcases h with h | ⟨g', h, hg'⟩
  · rw [h] at hg; exact (hB g hg).1
  · rw [h] at hg; cases hg; omega
theorem new_mr {w' : World} {b17 b56 b52 b54 n0 : Nat} {cvv iv : Value} {I : Img} {inp : List (BitVec 64)}
    (hb : Blk w' b17 (machCells (.slice (some ⟨b56, 0, none⟩) 2 2) cvv iv (newM I inp).x 65536#64 (.slice none 0 0) .nilIface 0#64) 85)
    (hm : Blk w' b56 #[U64 4194304#64, .slice (some ⟨b52, 0, none⟩) I.entry.toNat I.entry.toNat, U64 8323072#64, .slice (some ⟨b54, 0, none⟩) 65536 65536] 91)
    (hd : Ux.Own w' 1 (.slice (some ⟨b52, 0, none⟩) I.entry.toNat I.entry.toNat) I.entry.toNat (List.replicate I.entry.toNat (.int .u8 0))) (hs : Ux.Own w' 1 (.slice (some ⟨b54, 0, none⟩) 65536 65536) 65536 (List.replicate 65536 (.int .u8 0)))
    (hc : Ux.Own w' 6 cvv I.words.length (codeV (I.words.map decW))) (hi : Ux.Own w' 1 iv inp.length (inp.map I64))
    (k1 : ∀ g, iv.ownBlock = some g → g < b17) (k2 : ∀ g, cvv.ownBlock = some g → b17 < g) (k2a : ∀ g, cvv.ownBlock = some g → g < b52) (k2b : ∀ g, cvv.ownBlock = some g → g < b54) (k3 : b17 < b52) (k4 : b17 < b54) (k5 : b52 ≠ b54) (k6 : b52 < b56 ∧ b54 < b56)
    (h0 : n0 ≤ b17) (hiF : From n0 iv) (h6 : 6 ≤ n0) (hmle : I.entry.toNat ≤ 524288) : ∃ T, MR T w' b17 (newM I inp) ∧ ∀ k, T k ≠ 0 → n0 ≤ k := by
  have hlb := hb.lt
  have hlm := hm.lt
  have hcl : (newM I inp).code.length = I.words.length := by simp [newM]
  have sd : ∀ g, (Value.slice (some ⟨b52, 0, none⟩) I.entry.toNat I.entry.toNat).ownBlock = some g → g = b52 := fun g e => (Option.some.inj e).symm
  have ss : ∀ g, (Value.slice (some ⟨b54, 0, none⟩) 65536 65536).ownBlock = some g → g = b54 := fun g e => (Option.some.inj e).symm
  refine ⟨fun k => if k = b17 then 1 else if k = b56 then 2 else if k = b52 then 3 else if k = b54 then 4 else if cvv.ownBlock = some k then 5 else if iv.ownBlock = some k then 6 else 0, ⟨b56, _, _, cvv, iv, _, _, hb, hm, ?_, ?_, ?_, hi.sl, Ux.Own.nil _ _, rfl, ?_, ?_, ?_, ?_, ?_, ?_, ?_, ?_, ?_, ?_⟩, ?_⟩
  · have := bsV_zero I.entry.toNat; rw [this] at hd; exact hd
  · have := bsV_zero 65536; rw [this] at hs; exact hs
  · rw [hcl]; exact hc.sl
  · exact if_pos rfl
  · exact (if_neg (by omega)).trans (if_pos rfl)
  · intro g e; have := sd g e; subst this; exact (if_neg (by omega)).trans ((if_neg (by omega)).trans (if_pos rfl))
  · intro g e; have := ss g e; subst this; exact (if_neg (by omega)).trans ((if_neg (by omega)).trans ((if_neg (by omega)).trans (if_pos rfl)))
  · intro g e; have h1 := k2 g e; have h2 := k2a g e; have h3 := k2b g e; exact (if_neg (by omega)).trans ((if_neg (by omega)).trans ((if_neg (by omega)).trans ((if_neg (by omega)).trans (if_pos e))))
  · intro g e
    have h1 := k1 g e
    have hne : ¬ cvv.ownBlock = some g := fun e' => by have := k2 g e'; omega
    exact (if_neg (by omega)).trans ((if_neg (by omega)).trans ((if_neg (by omega)).trans ((if_neg (by omega)).trans ((if_neg hne).trans (if_pos e)))))
  · intro g e; cases e
  · intro g e; cases e
  · intro k hk
    try dsimp only at hk
    split at hk; · omega
    split at hk; · omega
    split at hk; · omega
    split at hk; · omega
    split at hk
    · rename_i e; have := k2 k e; have := k2a k e; omega
    split at hk
    · rename_i e; have := k1 k e; have := hiF k e; omega
    · exact absurd rfl hk
  · show I.entry.toNat ≤ 140737488355328; omega
  · intro k hk
    try dsimp only at hk
    split at hk; · omega
    split at hk; · omega
    split at hk; · omega
    split at hk; · omega
    split at hk
    · rename_i e; have := k2 k e; omega
    split at hk
    · rename_i e; exact hiF k e
    · exact absurd rfl hk
set_option maxRecDepth 100000 in
set_option maxHeartbeats 1000000 in
theorem new_ok (I : Img) (sv wv iv0 : Value) (inp : List (BitVec 64)) (w : World) (hR : Rep w sv wv I) (hN : ∀ s ∈ I.syms, True ∧ s.2 ≤ 9223372036854775807) (hG : Glob w) (h6 : 6 ≤ w.heap.size) (hI : Sl w iv0 1 inp.length (inp.map I64)) (hIf : iv0 = .slice none 0 0 ∨ ∃ a c, iv0 = .slice (some a) inp.length c) (hIl : inp.length ≤ 8796093022208) (hr : rightB I = true) : CallsR Tryz.prog 10 #[.agg #[.int .i64 (I.entry), sv, wv], iv0] w (fun v w' => ∃ T b, v = .tuple #[ptr b 0, IN 0] ∧ MR T w' b (newM I inp) ∧ (∀ k, T k ≠ 0 → w.heap.size ≤ k) ∧ Ext w w') := by
  obtain ⟨hr1, hr2, hr3⟩ := right_facts hr
  have hent : Value.int .i64 I.entry = IN I.entry.toNat := by show Value.int .i64 I.entry = Value.int .i64 ((I.entry.toNat : Nat) : Int); congr 1; omega
  refine callsR_of Tryz.func10 rfl rfl rfl ?_
  refine WC.seq (WC.region (WL.box (v := .agg #[.int .i64 (I.entry), sv, wv]) rfl rfl ?_))
  intro b2 w2 n2
  have E1 : Ext w w2 := Mod.trans (Mod.refl _ _) (n2.ext)
  refine WL.assign (v := .pointer none) rfl rfl (WL.assign (v := IN (0)) rfl rfl (WL.nil (WC.seq (WC.seq (WC.region (WL.loadS [.int .i64 (I.entry), sv, wv] rfl ag25 sz25 rfl (n2.blk.sub (o := 0) (vs := [.int .i64 (I.entry), sv, wv]) rfl) rfl (WL.call ca30 (rfl) rfl (Go.Proofs.R.right_spec sv wv I _ (hR.ext (E1)) hN) ?_)))))))
  rintro _ wri ⟨rfl, eri⟩
  rw [hr]
  have E2 : Ext w wri := Mod.trans (E1) (eri)
  refine WL.un rfl rfl UnR.not (WL.nil (WC.condF rfl (WC.skip (WC.seq (WC.region (WL.move (v := iv0) rfl rfl (WL.call ca31 (rfl) rfl (clone31 iv0 inp.length (inp.map I64) _ (hI.ext (E2)) hIf (ones_I64 _) hIl) ?_)))))))
  rintro _ wcl ⟨hc1, hc2, hc4, ecl⟩
  obtain ⟨ia, il, ic, rfl⟩ := hc1.sl.slc
  have hivF : From w.heap.size (.slice ia il ic) := fun g hg => Nat.le_trans (Mod.size (E2)) (hc2 g hg)
  have E3 : Ext w wcl := Mod.trans (E2) (ecl)
  refine WL.build (v := .agg #[.slice none 0 0, .slice none 0 0, .slice ia il ic, .int .u64 (0), .int .u64 (0), .int .u64 (0), .int .u64 (0), .int .u64 (0), .int .u64 (0), .int .u64 (0), .int .u64 (0), .int .u64 (0), .int .u64 (0), .int .u64 (0), .int .u64 (0), .int .u64 (0), .int .u64 (0), .int .u64 (0), .int .u64 (0), .int .u64 (0), .int .u64 (0), .int .u64 (0), .int .u64 (0), .int .u64 (0), .int .u64 (0), .int .u64 (0), .int .u64 (0), .int .u64 (0), .int .u64 (0), .int .u64 (0), .int .u64 (0), .int .u64 (0), .int .u64 (0), .int .u64 (0), .int .u64 (0), U64 (65536#64), .slice none 0 0, .nilIface, IN (0)]) (vs := [(2, .slice ia il ic), (4, U64 (65536#64))]) rfl (bld10_16 ia il ic) rfl ?_
  have B4 := ((n2.blk).ext (eri)).ext (ecl)
  refine WL.box (v := .agg #[.slice none 0 0, .slice none 0 0, .slice ia il ic, .int .u64 (0), .int .u64 (0), .int .u64 (0), .int .u64 (0), .int .u64 (0), .int .u64 (0), .int .u64 (0), .int .u64 (0), .int .u64 (0), .int .u64 (0), .int .u64 (0), .int .u64 (0), .int .u64 (0), .int .u64 (0), .int .u64 (0), .int .u64 (0), .int .u64 (0), .int .u64 (0), .int .u64 (0), .int .u64 (0), .int .u64 (0), .int .u64 (0), .int .u64 (0), .int .u64 (0), .int .u64 (0), .int .u64 (0), .int .u64 (0), .int .u64 (0), .int .u64 (0), .int .u64 (0), .int .u64 (0), .int .u64 (0), U64 (65536#64), .slice none 0 0, .nilIface, IN (0)]) rfl rfl ?_
  intro b17 w17 n17
  have E5 : Ext w w17 := Mod.trans (E3) (n17.ext)
  have hbb : w.heap.size ≤ b17 := by have := n17.num; have := Mod.size (E3); omega
  have hivb : ∀ g, (.slice ia il ic : Value).ownBlock = some g → g < b17 := fun g hg => by have := hc4 g hg; have := n17.num; omega
  have hb2 : b2 < b17 := by have := (B4).lt; have := n17.num; omega
  refine WL.assign (v := ptr b17 0) rfl rfl (WL.nil (WC.seq (WC.seq (WC.region (WL.fieldAddr rfl fo25_2 rfl ?_)))))
  have B6 := (B4).ext (n17.ext)
  refine WL.load1 rfl ag23 (B6.cell (j := 2) rfl) rfl (WL.lenSl (sz := 1) (m := I.words.length) (xs := wordCells I.words) el23 rfl ((hR.w).ext' (E5)) rfl (WL.move (v := IN (0)) rfl rfl (WL.nil ?_)))
  have O7 := (hc1).ext (n17.ext)
  have hIV0 := O7
  refine WC.block ?_
  refine WC.loop (fun k f w_ => ∃ i cvv, (k + i = I.words.length) ∧ f 0 = .agg #[.int .i64 (I.entry), sv, wv] ∧ f 1 = iv0 ∧ f 2 = ptr b2 0 ∧ f 6 = ptr b17 0 ∧ f 19 = wv ∧ f 20 = IN (I.words.length) ∧ f 21 = IN (i) ∧ (Ux.Own w_ 1 (.slice ia il ic) inp.length (inp.map I64)) ∧ (Ux.Own w_ 6 cvv i (codeV ((I.words.take i).map decW))) ∧ (∀ g, cvv.ownBlock = some g → b17 < g ∧ g < w_.heap.size) ∧ (Blk w_ b17 #[.slice none 0 0, cvv, .slice ia il ic, U64 (0#64), U64 (0#64), U64 (0#64), U64 (0#64), U64 (0#64), U64 (0#64), U64 (0#64), U64 (0#64), U64 (0#64), U64 (0#64), U64 (0#64), U64 (0#64), U64 (0#64), U64 (0#64), U64 (0#64), U64 (0#64), U64 (0#64), U64 (0#64), U64 (0#64), U64 (0#64), U64 (0#64), U64 (0#64), U64 (0#64), U64 (0#64), U64 (0#64), U64 (0#64), U64 (0#64), U64 (0#64), U64 (0#64), U64 (0#64), U64 (0#64), U64 (0#64), U64 (65536#64), .slice none 0 0, .nilIface, .int .i64 (0)] 85) ∧ (Blk w_ b2 #[.int .i64 (I.entry), sv, wv] 25) ∧ (Ext w w_)) (I.words.length) ?_ ?_
  · exact ⟨(0), (.slice none 0 0), by omega, rfl, rfl, rfl, rfl, rfl, rfl, rfl, hIV0, Ux.Own.nil _ _, (fun g hg => by cases hg), n17.blk, B6, E5⟩
  rintro ka f1 wr ⟨i, cvv, hk, h0_1, h1_1, h2_1, h6_1, h19_1, h20_1, h21_1, hIV, hO, hB, h17, h2, hE⟩
  refine WC.seq (WC.region (WL.bin h21_1 h20_1 rfl (BinR.lss) (WL.nil (WC.seq ?_))))
  refine WC.cond rfl (fun hc22 => ?_) (fun hc22 => ?_)
  · have hi : i < I.words.length := by have := of_decide_eq_true hc22; omega
    refine WC.skip (WC.seq (WC.block (WC.seq (WC.region (WL.indexSl (sz := 1) (m := I.words.length) (xs := wordCells I.words) (i := i) el23 sz50 h19_1 h21_1 (by omega) ((hR.w).ext' (hE)) rfl ?_)))))
    intro b23 o23 hb23 hc23
    refine WL.load1 rfl ag50 (by rw [Nat.mul_one]; exact hc23 i _ (word_get I.words i hi)) rfl (WL.assign (v := U32 (I.words[i])) rfl rfl (WL.nil (WC.seq (WC.region (WL.move (v := U32 (I.words[i])) rfl rfl (WL.call ca32 (rfl) rfl (decode_spec I.words[i] _ (hG.ext (hE))) ?_))))))
    rintro _ wde ⟨rfl, ede⟩
    have R8 : Ext wr wde := Mod.trans (Mod.refl _ _) (ede)
    have E9 : Ext w wde := Mod.trans (hE) (ede)
    refine WL.move (v := .tuple #[instV (decI I.words[i]), IN (decE I.words[i])]) rfl rfl (WL.extract rfl rfl rfl (WL.extract rfl rfl rfl ?_))
    have B10 := (h17).ext (ede)
    have B11 := (h2).ext (ede)
    refine WL.allocStore (v := .agg #[U8 ((decI I.words[i]).op), U8 ((decI I.words[i]).rd), U8 ((decI I.words[i]).rs1), U8 ((decI I.words[i]).rs2), I64 ((decI I.words[i]).imm)]) zt48 rfl sz48 rfl rfl rfl rfl ?_
    intro b9 w9 n9
    have hl_b17_b9 : b17 < b9 := by have := (B10).lt; have := n9.num; omega
    have hl_b2_b9 : b2 < b9 := by have := (B11).lt; have := n9.num; omega
    have E13 : Ext w w9 := Mod.trans (E9) (n9.ext)
    refine WL.assign (v := IN ((decE I.words[i]))) rfl rfl (WL.nil ?_)
    have N9 : cvv.ownBlock ≠ some b9 := fun e => by have := (hB b9 e).2; have := n9.num; have := Mod.size (R8); omega
    have hl9 : b17 < b9 := by have := n9.num; have := Mod.size (R8); have := h17.lt; omega
    rcases Bool.eq_false_or_eq_true (((((decE I.words[i]) : Nat) : Int) == (0 : Int))) with hd8_38 | hd8_38
    · refine WC.drawL (fun w_ => Mod (At cvv) wr w_ ∧ Blk w_ b17 #[.slice none 0 0, cvv, .slice ia il ic, U64 (0#64), U64 (0#64), U64 (0#64), U64 (0#64), U64 (0#64), U64 (0#64), U64 (0#64), U64 (0#64), U64 (0#64), U64 (0#64), U64 (0#64), U64 (0#64), U64 (0#64), U64 (0#64), U64 (0#64), U64 (0#64), U64 (0#64), U64 (0#64), U64 (0#64), U64 (0#64), U64 (0#64), U64 (0#64), U64 (0#64), U64 (0#64), U64 (0#64), U64 (0#64), U64 (0#64), U64 (0#64), U64 (0#64), U64 (0#64), U64 (0#64), U64 (0#64), U64 (65536#64), .slice none 0 0, .nilIface, .int .i64 (0)] 85 ∧ Blk w_ b9 #[U8 ((decI I.words[i]).op), U8 ((decI I.words[i]).rd), U8 ((decI I.words[i]).rs1), U8 ((decI I.words[i]).rs2), I64 ((decI I.words[i]).imm)] 48) 18 19 rfl mixed ?_
      intro wd_8 ed_8
      have E15 : Ext w wd_8 := Mod.trans (E13) (ed_8)
      have B16 := ((B10).ext (n9.ext)).ext (ed_8)
      have B17 := (n9.blk).ext (ed_8)
      refine WAL.take (i := 0) (m' := 1) (v := ptr b17 0) rfl rfl rfl rfl (by kernel_rfl) rfl (fun _ _ _ h => h) (fun wx hS => ?_) (⟨Mod.trans (Mod.trans (Mod.ext (ede)) (Mod.ext (n9.ext))) (Mod.ext (ed_8)), B16, B17⟩) ?_
      · exact WL.move (v := ptr b17 0) h6_1 rfl (WL.nil ⟨rfl, rfl, rfl⟩)
      refine WAL.take (i := 1) (m' := 3) (v := ptr b17 0) rfl rfl rfl rfl (by kernel_rfl) rfl (fun _ _ _ h => h) (fun wx hS => ?_) (⟨Mod.trans (Mod.trans (Mod.ext (ede)) (Mod.ext (n9.ext))) (Mod.ext (ed_8)), B16, B17⟩) ?_
      · exact WL.move (v := ptr b17 0) h6_1 rfl (WL.nil ⟨rfl, rfl, rfl⟩)
      refine WAL.take (i := 2) (m' := 7) (v := ptr b17 0) rfl rfl rfl rfl (by kernel_rfl) rfl (fun _ _ _ h => h) (fun wx hS => ?_) (⟨Mod.trans (Mod.trans (Mod.ext (ede)) (Mod.ext (n9.ext))) (Mod.ext (ed_8)), B16, B17⟩) ?_
      · exact WL.nilCheck rfl rfl (WL.nil ⟨rfl, rfl, rfl⟩)
      refine WAL.take (i := 3) (m' := 15) (v := ptr b17 1) rfl rfl rfl rfl (by kernel_rfl) rfl (fun _ _ _ h => h) (fun wx hS => ?_) (⟨Mod.trans (Mod.trans (Mod.ext (ede)) (Mod.ext (n9.ext))) (Mod.ext (ed_8)), B16, B17⟩) ?_
      · exact WL.fieldAddr rfl fo85_1 rfl (WL.nil ⟨rfl, rfl, rfl⟩)
      refine WAL.take (i := 4) (m' := 31) (v := cvv) rfl rfl rfl rfl (by kernel_rfl) rfl (fun _ _ _ h => h) (fun wx hS => ?_) (⟨Mod.trans (Mod.trans (Mod.ext (ede)) (Mod.ext (n9.ext))) (Mod.ext (ed_8)), B16, B17⟩) ?_
      · exact WL.load1 rfl ag81 (hS.2.1.cell (j := 1) rfl) rfl (WL.nil ⟨rfl, rfl, rfl⟩)
      refine WAL.take (i := 5) (m' := 63) (v := .agg #[U8 ((decI I.words[i]).op), U8 ((decI I.words[i]).rd), U8 ((decI I.words[i]).rs1), U8 ((decI I.words[i]).rs2), I64 ((decI I.words[i]).imm)]) rfl rfl rfl rfl (by kernel_rfl) rfl (fun _ _ _ h => h) (fun wx hS => ?_) (⟨Mod.trans (Mod.trans (Mod.ext (ede)) (Mod.ext (n9.ext))) (Mod.ext (ed_8)), B16, B17⟩) ?_
      · exact WL.loadS [U8 ((decI I.words[i]).op), U8 ((decI I.words[i]).rd), U8 ((decI I.words[i]).rs1), U8 ((decI I.words[i]).rs2), I64 ((decI I.words[i]).imm)] rfl ag48 sz48 rfl (hS.2.2.sub (o := 0) (vs := [U8 ((decI I.words[i]).op), U8 ((decI I.words[i]).rd), U8 ((decI I.words[i]).rs1), U8 ((decI I.words[i]).rs2), I64 ((decI I.words[i]).imm)]) rfl) rfl (WL.nil ⟨rfl, rfl, rfl⟩)
      refine WAL.take (i := 6) (m' := 127) (v := IN ((decE I.words[i]))) rfl rfl rfl rfl (by kernel_rfl) rfl (fun _ _ _ h => h) (fun wx hS => ?_) (⟨Mod.trans (Mod.trans (Mod.ext (ede)) (Mod.ext (n9.ext))) (Mod.ext (ed_8)), B16, B17⟩) ?_
      · exact WL.move (v := IN ((decE I.words[i]))) rfl rfl (WL.nil ⟨rfl, rfl, rfl⟩)
      refine WAL.take (i := 7) (m' := 255) (v := .bool (((((decE I.words[i]) : Nat) : Int) == (0 : Int)))) rfl rfl rfl rfl (by kernel_rfl) rfl (fun _ _ _ h => h) (fun wx hS => ?_) (⟨Mod.trans (Mod.trans (Mod.ext (ede)) (Mod.ext (n9.ext))) (Mod.ext (ed_8)), B16, B17⟩) ?_
      · exact WL.bin rfl rfl rfl (BinR.eql) (WL.nil ⟨rfl, rfl, rfl⟩)
      refine WAL.take (i := 8) (m' := 511) (v := .bool (((((decE I.words[i]) : Nat) : Int) == (0 : Int)))) rfl rfl rfl rfl (by kernel_rfl) rfl (fun _ _ _ h => h) (fun wx hS => ?_) (⟨Mod.trans (Mod.trans (Mod.ext (ede)) (Mod.ext (n9.ext))) (Mod.ext (ed_8)), B16, B17⟩) ?_
      · exact WL.move (v := .bool (((((decE I.words[i]) : Nat) : Int) == (0 : Int)))) rfl rfl (WL.nil ⟨rfl, rfl, rfl⟩)
      refine WAL.take (i := 9) (m' := 1023) (v := ptr b9 0) rfl rfl rfl rfl (by kernel_rfl) rfl (fun _ _ _ h => h) (fun wx hS => ?_) (⟨Mod.trans (Mod.trans (Mod.ext (ede)) (Mod.ext (n9.ext))) (Mod.ext (ed_8)), B16, B17⟩) ?_
      · refine WL.guardT (yf_bool rfl rfl hd8_38) (WL.fieldAddr rfl fo48_0 rfl ?_)
        exact WL.nil ⟨rfl, rfl, rfl⟩
      refine WAL.take (i := 10) (m' := 2047) (v := U8 ((decI I.words[i]).op)) rfl rfl rfl rfl (by kernel_rfl) rfl (fun _ _ _ h => h) (fun wx hS => ?_) (⟨Mod.trans (Mod.trans (Mod.ext (ede)) (Mod.ext (n9.ext))) (Mod.ext (ed_8)), B16, B17⟩) ?_
      · refine WL.guardT (yf_bool rfl rfl hd8_38) (WL.load1 rfl ag5 (hS.2.2.cell (j := 0) rfl) rfl ?_)
        exact WL.nil ⟨rfl, rfl, rfl⟩
      refine WAL.take (i := 11) (m' := 4095) (v := .bool (((decI I.words[i]).op != 65#8))) rfl rfl rfl rfl (by kernel_rfl) rfl (fun _ _ _ h => h) (fun wx hS => ?_) (⟨Mod.trans (Mod.trans (Mod.ext (ede)) (Mod.ext (n9.ext))) (Mod.ext (ed_8)), B16, B17⟩) ?_
      · refine WL.guardT (yf_bool rfl rfl hd8_38) (WL.bin rfl (vy := U8 (65#8)) rfl rfl (BinR.neqU8) ?_)
        exact WL.nil ⟨rfl, rfl, rfl⟩
      refine WAL.take (i := 12) (m' := 8191) (v := .bool (((decI I.words[i]).op != 65#8))) rfl rfl rfl rfl (by kernel_rfl) rfl (fun _ _ _ h => h) (fun wx hS => ?_) (⟨Mod.trans (Mod.trans (Mod.ext (ede)) (Mod.ext (n9.ext))) (Mod.ext (ed_8)), B16, B17⟩) ?_
      · exact WL.pick (b := true) (congrArg Value.bool hd8_38) rfl rfl (WL.nil ⟨rfl, rfl, rfl⟩)
      refine WAL.take (i := 13) (m' := 16383) (v := .agg #[U8 ((decI I.words[i]).op), U8 ((decI I.words[i]).rd), U8 ((decI I.words[i]).rs1), U8 ((decI I.words[i]).rs2), I64 ((decI I.words[i]).imm), .bool (((decI I.words[i]).op != 65#8))]) rfl rfl rfl rfl (by kernel_rfl) rfl (fun _ _ _ h => h) (fun wx hS => ?_) (⟨Mod.trans (Mod.trans (Mod.ext (ede)) (Mod.ext (n9.ext))) (Mod.ext (ed_8)), B16, B17⟩) ?_
      · exact WL.build (v := .agg #[U8 ((decI I.words[i]).op), U8 ((decI I.words[i]).rd), U8 ((decI I.words[i]).rs1), U8 ((decI I.words[i]).rs2), I64 ((decI I.words[i]).imm), .bool (((decI I.words[i]).op != 65#8))]) (vs := [(0, .agg #[U8 ((decI I.words[i]).op), U8 ((decI I.words[i]).rd), U8 ((decI I.words[i]).rs1), U8 ((decI I.words[i]).rs2), I64 ((decI I.words[i]).imm)]), (1, .bool (((decI I.words[i]).op != 65#8)))]) rfl (bld10_43 (decI I.words[i]).op (decI I.words[i]).rd (decI I.words[i]).rs1 (decI I.words[i]).rs2 (decI I.words[i]).imm (((decI I.words[i]).op != 65#8))) rfl (WL.nil ⟨rfl, rfl, rfl⟩)
      refine WAL.one (i := 14) (m' := 32767) (by kernel_rfl) rfl rfl ?_
      refine WL.buildSlice (vs := [(0, .agg #[U8 ((decI I.words[i]).op), U8 ((decI I.words[i]).rd), U8 ((decI I.words[i]).rs1), U8 ((decI I.words[i]).rs2), I64 ((decI I.words[i]).imm), .bool (((decI I.words[i]).op != 65#8))])]) rfl (bls10_44 (decI I.words[i]).op (decI I.words[i]).rd (decI I.words[i]).rs1 (decI I.words[i]).rs2 (decI I.words[i]).imm (((decI I.words[i]).op != 65#8))) rfl ?_
      intro b44 w44 n44
      have E19 : Ext w w44 := Mod.trans (E15) (n44.ext)
      have B20 := (B16).ext (n44.ext)
      have B21 := (B17).ext (n44.ext)
      refine WL.behindS (⟨Mod.trans (Mod.trans (Mod.trans (Mod.ext (ede)) (Mod.ext (n9.ext))) (Mod.ext (ed_8))) (Mod.ext (n44.ext)), B20, B21⟩) ?_
      refine WAL.one (i := 15) (m' := 65535) (by kernel_rfl) rfl rfl ?_
      have hl44 : b17 < w44.heap.size := (B20).lt
      have O22 := ((((hO).ext (ede)).ext (n9.ext)).ext (ed_8)).ext (n44.ext)
      refine WL.append (k := i) (m := 1) (xs := codeV ((I.words.take i).map decW)) (news := [U8 ((decI I.words[i]).op), U8 ((decI I.words[i]).rd), U8 ((decI I.words[i]).rs1), U8 ((decI I.words[i]).rs2), I64 ((decI I.words[i]).imm), .bool (((decI I.words[i]).op != 65#8))]) ap81 rfl rfl rfl (O22) ((Sl.of1 (n44.blk).cells rfl).src Tryz.underlying81 (List.all_eq_true.1 rfl)) (by omega) (by omega) rfl ?_
      intro v45 w45 o45 m45 l45
      have F23 : From w.heap.size v45 := LocV.from l45 (Mod.size (E19)) ((fun g hg => by have := (hB g hg).1; omega))
      have N24 : v45.ownBlock ≠ some b17 := LocV.ne l45 ((B20).lt) (fun e => by have := (hB b17 e).1; omega)
      have B26 := (((B11).ext (n9.ext)).ext (ed_8)).ext (n44.ext)
      have N25 : v45.ownBlock ≠ some b2 := LocV.ne l45 ((B26).lt) (fun e => by have := (hB b2 e).1; omega)
      have N27 : v45.ownBlock ≠ some b9 := LocV.ne l45 ((B21).lt) N9
      have E28 : Ext w w45 := Mod.from (E19) m45 ((fun g hg => by have := (hB g hg).1; omega))
      have hB2 := locB l45 hB hl44
      have B29 := (B20).mod (m45) ((fun e => by have := (hB b17 e).1; omega))
      have B30 := (B21).mod (m45) (N9)
      refine WL.behindS (⟨Mod.trans (Mod.trans (Mod.trans (Mod.trans (Mod.ext (ede)) (Mod.ext (n9.ext))) (Mod.ext (ed_8))) (Mod.ext (n44.ext))) (m45), B29, B30⟩) ?_
      refine WAL.one (i := 16) (m' := 131071) (by kernel_rfl) rfl rfl ?_
      refine WL.nilCheck rfl rfl (WL.behindS (⟨Mod.trans (Mod.trans (Mod.trans (Mod.trans (Mod.ext (ede)) (Mod.ext (n9.ext))) (Mod.ext (ed_8))) (Mod.ext (n44.ext))) (m45), B29, B30⟩) ?_)
      refine WAL.take (i := 17) (m' := 262143) (v := ptr b17 1) rfl rfl rfl rfl (by kernel_rfl) rfl (fun _ _ _ h => h) (fun wx hS => ?_) (⟨Mod.trans (Mod.trans (Mod.trans (Mod.trans (Mod.ext (ede)) (Mod.ext (n9.ext))) (Mod.ext (ed_8))) (Mod.ext (n44.ext))) (m45), B29, B30⟩) ?_
      · exact WL.fieldAddr rfl fo85_1 rfl (WL.nil ⟨rfl, rfl, rfl⟩)
      refine WAL.one (i := 18) (m' := 524287) (by kernel_rfl) rfl rfl ?_
      refine WL.storeB (v := v45) rfl rfl (o45).one sz81 B29 (Nat.le_of_ble_eq_true rfl) ?_
      intro ws31 ms31 bs31 zs31
      have E31 : Ext w ws31 := Mod.then (E28) (ms31) (fun i hi (e : i = b17) => absurd hi (by omega))
      refine WL.behindL (by kernel_rfl) ?_
      refine WAL.done (by kernel_rfl) ?_
      refine WC.region (WL.bin h21_1 rfl rfl (BinR.succN (by omega)) (WL.move (v := IN (i + 1)) rfl rfl (WL.nil ?_)))
      have O32 := ((((((hIV).ext (ede)).ext (n9.ext)).ext (ed_8)).ext (n44.ext)).mod (m45) ((fun g hg e => by have h1 := hivb g hg; have h2 := (hB g e).1; omega))).mod (ms31) (fun g hg e => (fun e => by have := hivb b17 e; omega) (hg.trans (congrArg some e)))
      have hIVe := O32
      have O33 := (o45).mod (ms31) (fun g hg e => N24 (hg.trans (congrArg some e)))
      have hOe : Ux.Own ws31 6 v45 (i + 1) (codeV ((I.words.take (i + 1)).map decW)) := by rw [codeV_take _ _ hi]; first | (rw [decW_T hd8_38]; exact O33) | (rw [decW_F hd8_38]; exact O33)
      have B34 := ((B26).mod (m45) ((fun e => by have := (hB b2 e).1; omega))).mod (ms31) ((by omega))
      exact ⟨ka - 1, by omega, (i + 1), (v45), by omega, h0_1, h1_1, h2_1, h6_1, h19_1, h20_1, rfl, hIVe, hOe, (fun g hg => ⟨hB2 g hg, hOe.lt (by omega) (by decide) hg⟩), bs31, B34, E31⟩
    · refine WC.drawL (fun w_ => Mod (At cvv) wr w_ ∧ Blk w_ b17 #[.slice none 0 0, cvv, .slice ia il ic, U64 (0#64), U64 (0#64), U64 (0#64), U64 (0#64), U64 (0#64), U64 (0#64), U64 (0#64), U64 (0#64), U64 (0#64), U64 (0#64), U64 (0#64), U64 (0#64), U64 (0#64), U64 (0#64), U64 (0#64), U64 (0#64), U64 (0#64), U64 (0#64), U64 (0#64), U64 (0#64), U64 (0#64), U64 (0#64), U64 (0#64), U64 (0#64), U64 (0#64), U64 (0#64), U64 (0#64), U64 (0#64), U64 (0#64), U64 (0#64), U64 (0#64), U64 (0#64), U64 (65536#64), .slice none 0 0, .nilIface, .int .i64 (0)] 85 ∧ Blk w_ b9 #[U8 ((decI I.words[i]).op), U8 ((decI I.words[i]).rd), U8 ((decI I.words[i]).rs1), U8 ((decI I.words[i]).rs2), I64 ((decI I.words[i]).imm)] 48) 18 19 rfl mixed ?_
      intro wd_8 ed_8
      have E36 : Ext w wd_8 := Mod.trans (E13) (ed_8)
      have B37 := ((B10).ext (n9.ext)).ext (ed_8)
      have B38 := (n9.blk).ext (ed_8)
      refine WAL.take (i := 0) (m' := 1) (v := ptr b17 0) rfl rfl rfl rfl (by kernel_rfl) rfl (fun _ _ _ h => h) (fun wx hS => ?_) (⟨Mod.trans (Mod.trans (Mod.ext (ede)) (Mod.ext (n9.ext))) (Mod.ext (ed_8)), B37, B38⟩) ?_
      · exact WL.move (v := ptr b17 0) h6_1 rfl (WL.nil ⟨rfl, rfl, rfl⟩)
      refine WAL.take (i := 1) (m' := 3) (v := ptr b17 0) rfl rfl rfl rfl (by kernel_rfl) rfl (fun _ _ _ h => h) (fun wx hS => ?_) (⟨Mod.trans (Mod.trans (Mod.ext (ede)) (Mod.ext (n9.ext))) (Mod.ext (ed_8)), B37, B38⟩) ?_
      · exact WL.move (v := ptr b17 0) h6_1 rfl (WL.nil ⟨rfl, rfl, rfl⟩)
      refine WAL.take (i := 2) (m' := 7) (v := ptr b17 0) rfl rfl rfl rfl (by kernel_rfl) rfl (fun _ _ _ h => h) (fun wx hS => ?_) (⟨Mod.trans (Mod.trans (Mod.ext (ede)) (Mod.ext (n9.ext))) (Mod.ext (ed_8)), B37, B38⟩) ?_
      · exact WL.nilCheck rfl rfl (WL.nil ⟨rfl, rfl, rfl⟩)
      refine WAL.take (i := 3) (m' := 15) (v := ptr b17 1) rfl rfl rfl rfl (by kernel_rfl) rfl (fun _ _ _ h => h) (fun wx hS => ?_) (⟨Mod.trans (Mod.trans (Mod.ext (ede)) (Mod.ext (n9.ext))) (Mod.ext (ed_8)), B37, B38⟩) ?_
      · exact WL.fieldAddr rfl fo85_1 rfl (WL.nil ⟨rfl, rfl, rfl⟩)
      refine WAL.take (i := 4) (m' := 31) (v := cvv) rfl rfl rfl rfl (by kernel_rfl) rfl (fun _ _ _ h => h) (fun wx hS => ?_) (⟨Mod.trans (Mod.trans (Mod.ext (ede)) (Mod.ext (n9.ext))) (Mod.ext (ed_8)), B37, B38⟩) ?_
      · exact WL.load1 rfl ag81 (hS.2.1.cell (j := 1) rfl) rfl (WL.nil ⟨rfl, rfl, rfl⟩)
      refine WAL.take (i := 5) (m' := 63) (v := .agg #[U8 ((decI I.words[i]).op), U8 ((decI I.words[i]).rd), U8 ((decI I.words[i]).rs1), U8 ((decI I.words[i]).rs2), I64 ((decI I.words[i]).imm)]) rfl rfl rfl rfl (by kernel_rfl) rfl (fun _ _ _ h => h) (fun wx hS => ?_) (⟨Mod.trans (Mod.trans (Mod.ext (ede)) (Mod.ext (n9.ext))) (Mod.ext (ed_8)), B37, B38⟩) ?_
      · exact WL.loadS [U8 ((decI I.words[i]).op), U8 ((decI I.words[i]).rd), U8 ((decI I.words[i]).rs1), U8 ((decI I.words[i]).rs2), I64 ((decI I.words[i]).imm)] rfl ag48 sz48 rfl (hS.2.2.sub (o := 0) (vs := [U8 ((decI I.words[i]).op), U8 ((decI I.words[i]).rd), U8 ((decI I.words[i]).rs1), U8 ((decI I.words[i]).rs2), I64 ((decI I.words[i]).imm)]) rfl) rfl (WL.nil ⟨rfl, rfl, rfl⟩)
      refine WAL.take (i := 6) (m' := 127) (v := IN ((decE I.words[i]))) rfl rfl rfl rfl (by kernel_rfl) rfl (fun _ _ _ h => h) (fun wx hS => ?_) (⟨Mod.trans (Mod.trans (Mod.ext (ede)) (Mod.ext (n9.ext))) (Mod.ext (ed_8)), B37, B38⟩) ?_
      · exact WL.move (v := IN ((decE I.words[i]))) rfl rfl (WL.nil ⟨rfl, rfl, rfl⟩)
      refine WAL.take (i := 7) (m' := 255) (v := .bool (((((decE I.words[i]) : Nat) : Int) == (0 : Int)))) rfl rfl rfl rfl (by kernel_rfl) rfl (fun _ _ _ h => h) (fun wx hS => ?_) (⟨Mod.trans (Mod.trans (Mod.ext (ede)) (Mod.ext (n9.ext))) (Mod.ext (ed_8)), B37, B38⟩) ?_
      · exact WL.bin rfl rfl rfl (BinR.eql) (WL.nil ⟨rfl, rfl, rfl⟩)
      refine WAL.take (i := 8) (m' := 511) (v := .bool (((((decE I.words[i]) : Nat) : Int) == (0 : Int)))) rfl rfl rfl rfl (by kernel_rfl) rfl (fun _ _ _ h => h) (fun wx hS => ?_) (⟨Mod.trans (Mod.trans (Mod.ext (ede)) (Mod.ext (n9.ext))) (Mod.ext (ed_8)), B37, B38⟩) ?_
      · exact WL.move (v := .bool (((((decE I.words[i]) : Nat) : Int) == (0 : Int)))) rfl rfl (WL.nil ⟨rfl, rfl, rfl⟩)
      refine WAL.off (i := 9) (m' := 1023) (y := some false) rfl rfl rfl rfl (by kernel_rfl) rfl (fun _ _ _ h => h) (yf_bool rfl rfl hd8_38) rfl (⟨Mod.trans (Mod.trans (Mod.ext (ede)) (Mod.ext (n9.ext))) (Mod.ext (ed_8)), B37, B38⟩) ?_
      refine WAL.off (i := 10) (m' := 2047) (y := some false) rfl rfl rfl rfl (by kernel_rfl) rfl (fun _ _ _ h => h) (yf_bool rfl rfl hd8_38) rfl (⟨Mod.trans (Mod.trans (Mod.ext (ede)) (Mod.ext (n9.ext))) (Mod.ext (ed_8)), B37, B38⟩) ?_
      refine WAL.off (i := 11) (m' := 4095) (y := some false) rfl rfl rfl rfl (by kernel_rfl) rfl (fun _ _ _ h => h) (yf_bool rfl rfl hd8_38) rfl (⟨Mod.trans (Mod.trans (Mod.ext (ede)) (Mod.ext (n9.ext))) (Mod.ext (ed_8)), B37, B38⟩) ?_
      refine WAL.take (i := 12) (m' := 8191) (v := .bool (false)) rfl rfl rfl rfl (by kernel_rfl) rfl (fun _ _ _ h => h) (fun wx hS => ?_) (⟨Mod.trans (Mod.trans (Mod.ext (ede)) (Mod.ext (n9.ext))) (Mod.ext (ed_8)), B37, B38⟩) ?_
      · exact WL.pick (b := false) (congrArg Value.bool hd8_38) rfl rfl (WL.nil ⟨rfl, rfl, rfl⟩)
      refine WAL.take (i := 13) (m' := 16383) (v := .agg #[U8 ((decI I.words[i]).op), U8 ((decI I.words[i]).rd), U8 ((decI I.words[i]).rs1), U8 ((decI I.words[i]).rs2), I64 ((decI I.words[i]).imm), .bool (false)]) rfl rfl rfl rfl (by kernel_rfl) rfl (fun _ _ _ h => h) (fun wx hS => ?_) (⟨Mod.trans (Mod.trans (Mod.ext (ede)) (Mod.ext (n9.ext))) (Mod.ext (ed_8)), B37, B38⟩) ?_
      · exact WL.build (v := .agg #[U8 ((decI I.words[i]).op), U8 ((decI I.words[i]).rd), U8 ((decI I.words[i]).rs1), U8 ((decI I.words[i]).rs2), I64 ((decI I.words[i]).imm), .bool (false)]) (vs := [(0, .agg #[U8 ((decI I.words[i]).op), U8 ((decI I.words[i]).rd), U8 ((decI I.words[i]).rs1), U8 ((decI I.words[i]).rs2), I64 ((decI I.words[i]).imm)]), (1, .bool (false))]) rfl (bld10_43 (decI I.words[i]).op (decI I.words[i]).rd (decI I.words[i]).rs1 (decI I.words[i]).rs2 (decI I.words[i]).imm (false)) rfl (WL.nil ⟨rfl, rfl, rfl⟩)
      refine WAL.one (i := 14) (m' := 32767) (by kernel_rfl) rfl rfl ?_
      refine WL.buildSlice (vs := [(0, .agg #[U8 ((decI I.words[i]).op), U8 ((decI I.words[i]).rd), U8 ((decI I.words[i]).rs1), U8 ((decI I.words[i]).rs2), I64 ((decI I.words[i]).imm), .bool (false)])]) rfl (bls10_44 (decI I.words[i]).op (decI I.words[i]).rd (decI I.words[i]).rs1 (decI I.words[i]).rs2 (decI I.words[i]).imm (false)) rfl ?_
      intro b44 w44 n44
      have E40 : Ext w w44 := Mod.trans (E36) (n44.ext)
      have B41 := (B37).ext (n44.ext)
      have B42 := (B38).ext (n44.ext)
      refine WL.behindS (⟨Mod.trans (Mod.trans (Mod.trans (Mod.ext (ede)) (Mod.ext (n9.ext))) (Mod.ext (ed_8))) (Mod.ext (n44.ext)), B41, B42⟩) ?_
      refine WAL.one (i := 15) (m' := 65535) (by kernel_rfl) rfl rfl ?_
      have hl44 : b17 < w44.heap.size := (B41).lt
      have O43 := ((((hO).ext (ede)).ext (n9.ext)).ext (ed_8)).ext (n44.ext)
      refine WL.append (k := i) (m := 1) (xs := codeV ((I.words.take i).map decW)) (news := [U8 ((decI I.words[i]).op), U8 ((decI I.words[i]).rd), U8 ((decI I.words[i]).rs1), U8 ((decI I.words[i]).rs2), I64 ((decI I.words[i]).imm), .bool (false)]) ap81 rfl rfl rfl (O43) ((Sl.of1 (n44.blk).cells rfl).src Tryz.underlying81 (List.all_eq_true.1 rfl)) (by omega) (by omega) rfl ?_
      intro v45 w45 o45 m45 l45
      have F44 : From w.heap.size v45 := LocV.from l45 (Mod.size (E40)) ((fun g hg => by have := (hB g hg).1; omega))
      have N45 : v45.ownBlock ≠ some b17 := LocV.ne l45 ((B41).lt) (fun e => by have := (hB b17 e).1; omega)
      have B47 := (((B11).ext (n9.ext)).ext (ed_8)).ext (n44.ext)
      have N46 : v45.ownBlock ≠ some b2 := LocV.ne l45 ((B47).lt) (fun e => by have := (hB b2 e).1; omega)
      have N48 : v45.ownBlock ≠ some b9 := LocV.ne l45 ((B42).lt) N9
      have E49 : Ext w w45 := Mod.from (E40) m45 ((fun g hg => by have := (hB g hg).1; omega))
      have hB2 := locB l45 hB hl44
      have B50 := (B41).mod (m45) ((fun e => by have := (hB b17 e).1; omega))
      have B51 := (B42).mod (m45) (N9)
      refine WL.behindS (⟨Mod.trans (Mod.trans (Mod.trans (Mod.trans (Mod.ext (ede)) (Mod.ext (n9.ext))) (Mod.ext (ed_8))) (Mod.ext (n44.ext))) (m45), B50, B51⟩) ?_
      refine WAL.one (i := 16) (m' := 131071) (by kernel_rfl) rfl rfl ?_
      refine WL.nilCheck rfl rfl (WL.behindS (⟨Mod.trans (Mod.trans (Mod.trans (Mod.trans (Mod.ext (ede)) (Mod.ext (n9.ext))) (Mod.ext (ed_8))) (Mod.ext (n44.ext))) (m45), B50, B51⟩) ?_)
      refine WAL.take (i := 17) (m' := 262143) (v := ptr b17 1) rfl rfl rfl rfl (by kernel_rfl) rfl (fun _ _ _ h => h) (fun wx hS => ?_) (⟨Mod.trans (Mod.trans (Mod.trans (Mod.trans (Mod.ext (ede)) (Mod.ext (n9.ext))) (Mod.ext (ed_8))) (Mod.ext (n44.ext))) (m45), B50, B51⟩) ?_
      · exact WL.fieldAddr rfl fo85_1 rfl (WL.nil ⟨rfl, rfl, rfl⟩)
      refine WAL.one (i := 18) (m' := 524287) (by kernel_rfl) rfl rfl ?_
      refine WL.storeB (v := v45) rfl rfl (o45).one sz81 B50 (Nat.le_of_ble_eq_true rfl) ?_
      intro ws52 ms52 bs52 zs52
      have E52 : Ext w ws52 := Mod.then (E49) (ms52) (fun i hi (e : i = b17) => absurd hi (by omega))
      refine WL.behindL (by kernel_rfl) ?_
      refine WAL.done (by kernel_rfl) ?_
      refine WC.region (WL.bin h21_1 rfl rfl (BinR.succN (by omega)) (WL.move (v := IN (i + 1)) rfl rfl (WL.nil ?_)))
      have O53 := ((((((hIV).ext (ede)).ext (n9.ext)).ext (ed_8)).ext (n44.ext)).mod (m45) ((fun g hg e => by have h1 := hivb g hg; have h2 := (hB g e).1; omega))).mod (ms52) (fun g hg e => (fun e => by have := hivb b17 e; omega) (hg.trans (congrArg some e)))
      have hIVe := O53
      have O54 := (o45).mod (ms52) (fun g hg e => N45 (hg.trans (congrArg some e)))
      have hOe : Ux.Own ws52 6 v45 (i + 1) (codeV ((I.words.take (i + 1)).map decW)) := by rw [codeV_take _ _ hi]; first | (rw [decW_T hd8_38]; exact O54) | (rw [decW_F hd8_38]; exact O54)
      have B55 := ((B47).mod (m45) ((fun e => by have := (hB b2 e).1; omega))).mod (ms52) ((by omega))
      exact ⟨ka - 1, by omega, (i + 1), (v45), by omega, h0_1, h1_1, h2_1, h6_1, h19_1, h20_1, rfl, hIVe, hOe, (fun g hg => ⟨hB2 g hg, hOe.lt (by omega) (by decide) hg⟩), bs52, B55, E52⟩
  · have hi : i = I.words.length := by have := of_decide_eq_false hc22; omega
    have hOc : Ux.Own wr 6 cvv I.words.length (codeV (I.words.map decW)) := by have h := hO; rw [hi, List.take_length] at h; exact h
    refine WC.exit (WC.seq (WC.drawL (fun w_ => Ext wr w_) 10 11 rfl mixed ?_))
    intro wd_10 ed_10
    have R56 : Ext wr wd_10 := Mod.trans (Mod.refl _ _) (ed_10)
    have R57 : Ext wr wd_10 := Mod.trans (Mod.refl _ _) (ed_10)
    have E58 : Ext w wd_10 := Mod.trans (hE) (ed_10)
    refine WAL.take (i := 0) (m' := 1) (v := ptr b17 0) rfl rfl rfl rfl (by kernel_rfl) rfl (fun _ _ _ h => h) (fun wx hS => ?_) (R57) ?_
    · exact WL.move (v := ptr b17 0) h6_1 rfl (WL.nil ⟨rfl, rfl, rfl⟩)
    refine WAL.take (i := 1) (m' := 3) (v := ptr b2 0) rfl rfl rfl rfl (by kernel_rfl) rfl (fun _ _ _ h => h) (fun wx hS => ?_) (R57) ?_
    · exact WL.fieldAddr h2_1 fo25_0 rfl (WL.nil ⟨rfl, rfl, rfl⟩)
    refine WAL.take (i := 2) (m' := 7) (v := .int .i64 (I.entry)) rfl rfl rfl rfl (by kernel_rfl) rfl (fun _ _ _ h => h) (fun wx hS => ?_) (R57) ?_
    · have B62 := (h2).ext (hS)
      exact WL.load1 rfl ag3 (B62.cell (j := 0) rfl) rfl (WL.nil ⟨rfl, rfl, rfl⟩)
    refine WAL.two (i := 3) (j := 5) (mi := 15) (mj := 39) (by kernel_rfl) rfl rfl rfl rfl ?_ ?_
    · have B63 := (h17).ext (ed_10)
      refine WL.makeSliceB (m := I.entry.toNat) ap45 (Eq.trans (rfl) hent) (Eq.trans (rfl) hent) (by omega) (by omega) rfl ?_
      intro b52 w52 n52
      have hl52 : b17 < b52 := by have := (B63).lt; have := n52.num; omega
      have hk52 : ∀ g, cvv.ownBlock = some g → g < b52 := fun g hg => by have := (hB g hg).2; have := n52.num; have := Mod.size (R56); omega
      have R64 : Ext wr w52 := Mod.trans (R56) (n52.ext)
      have R65 : Ext wr w52 := Mod.trans (R57) (n52.ext)
      have E66 : Ext w w52 := Mod.trans (E58) (n52.ext)
      refine WL.behindS (R65) ?_
      refine WAL.take (i := 4) (m' := 31) (v := .agg #[U64 (4194304#64), .slice (some ⟨b52, 0, none⟩) (I.entry.toNat) (I.entry.toNat)]) rfl rfl rfl rfl (by kernel_rfl) rfl (fun _ _ _ h => h) (fun wx hS => ?_) (R65) ?_
      · exact WL.build (v := .agg #[U64 (4194304#64), .slice (some ⟨b52, 0, none⟩) (I.entry.toNat) (I.entry.toNat)]) (vs := [(0, U64 (4194304#64)), (1, .slice (some ⟨b52, 0, none⟩) (I.entry.toNat) (I.entry.toNat))]) rfl (bld10_53 b52 I.entry.toNat) rfl (WL.nil ⟨rfl, rfl, rfl⟩)
      refine WAL.one (i := 5) (m' := 63) (by kernel_rfl) rfl rfl ?_
      have B68 := (B63).ext (n52.ext)
      refine WL.makeSliceB (m := 65536) ap45 rfl rfl (by omega) (by omega) rfl ?_
      intro b54 w54 n54
      have hl54 : b17 < b54 := by have := (B68).lt; have := n54.num; omega
      have hk54 : ∀ g, cvv.ownBlock = some g → g < b54 := fun g hg => by have := (hB g hg).2; have := n54.num; have := Mod.size (R64); omega
      have hx52 : b52 ≠ b54 := by have := n52.blk.lt; have := n54.num; omega
      have R70 : Ext wr w54 := Mod.trans (R65) (n54.ext)
      have E71 : Ext w w54 := Mod.trans (E66) (n54.ext)
      refine WL.behindS (R70) ?_
      refine WAL.take (i := 6) (m' := 127) (v := .agg #[U64 (8323072#64), .slice (some ⟨b54, 0, none⟩) (65536) (65536)]) rfl rfl rfl rfl (by kernel_rfl) rfl (fun _ _ _ h => h) (fun wx hS => ?_) (R70) ?_
      · exact WL.build (v := .agg #[U64 (8323072#64), .slice (some ⟨b54, 0, none⟩) (65536) (65536)]) (vs := [(0, U64 (8323072#64)), (1, .slice (some ⟨b54, 0, none⟩) (65536) (65536))]) rfl (bld10_55 b54 65536) rfl (WL.nil ⟨rfl, rfl, rfl⟩)
      refine WAL.one (i := 7) (m' := 255) (by kernel_rfl) rfl rfl ?_
      have B73 := (n52.blk).ext (n54.ext)
      refine WL.buildSlice (vs := [(0, .agg #[U64 (4194304#64), .slice (some ⟨b52, 0, none⟩) (I.entry.toNat) (I.entry.toNat)]), (1, .agg #[U64 (8323072#64), .slice (some ⟨b54, 0, none⟩) (65536) (65536)])]) rfl (bls10_56 b52 b54 I.entry.toNat 65536) rfl ?_
      intro b56 w56 n56
      have R75 : Ext wr w56 := Mod.trans (R70) (n56.ext)
      have E76 : Ext w w56 := Mod.trans (E71) (n56.ext)
      have hz56 : b52 < b56 ∧ b54 < b56 := by have := n56.num; have h1 := (B73).lt; have h2 := (n54.blk).lt; omega
      refine WL.behindS (R75) ?_
      refine WAL.one (i := 8) (m' := 511) (by kernel_rfl) rfl rfl ?_
      refine WL.nilCheck rfl rfl (WL.behindS (R75) ?_)
      refine WAL.take (i := 9) (m' := 1023) (v := ptr b17 0) rfl rfl rfl rfl (by kernel_rfl) rfl (fun _ _ _ h => h) (fun wx hS => ?_) (R75) ?_
      · exact WL.fieldAddr rfl fo85_0 rfl (WL.nil ⟨rfl, rfl, rfl⟩)
      refine WAL.one (i := 10) (m' := 2047) (by kernel_rfl) rfl rfl ?_
      have B78 := ((B68).ext (n54.ext)).ext (n56.ext)
      refine WL.storeB (v := .slice (some ⟨b56, 0, none⟩) 2 2) rfl rfl rfl sz80 B78 (Nat.le_of_ble_eq_true rfl) ?_
      intro ws79 ms79 bs79 zs79
      have E79 : Ext w ws79 := Mod.then (E76) (ms79) (fun i hi (e : i = b17) => absurd hi (by omega))
      refine WL.behindL (by kernel_rfl) ?_
      refine WAL.done (by kernel_rfl) ?_
      refine WC.seq (WC.region (WL.move (v := ptr b17 0) h6_1 rfl (WL.nilCheck rfl rfl (WL.fieldAddr rfl fo85_3 rfl (WL.indexArr (i := 2) ar68 sz39 rfl rfl (by omega) rfl (WL.storeB (v := U64 (8388608#64)) rfl rfl rfl sz39 bs79 (Nat.le_of_ble_eq_true rfl) ?_))))))
      intro ws80 ms80 bs80 zs80
      have E80 : Ext w ws80 := Mod.then (E79) (ms80) (fun i hi (e : i = b17) => absurd hi (by omega))
      refine WL.nil (WC.seq (WC.region (WL.move (v := ptr b17 0) h6_1 rfl (WL.assign (v := ptr b17 0) rfl rfl (WL.assign (v := IN (0)) rfl rfl (WL.nil (WC.ret ?_)))))))
      have B81 := ((n56.blk).mod (ms79) ((by omega))).mod (ms80) ((by omega))
      have O82 := ((((n52.blk.own).ext (n54.ext)).ext (n56.ext)).mod (ms79) (fun g hg e => (fun e => by have h : b52 = b17 := Option.some.inj e; omega) (hg.trans (congrArg some e)))).mod (ms80) (fun g hg e => (fun e => by have h : b52 = b17 := Option.some.inj e; omega) (hg.trans (congrArg some e)))
      have O83 := (((n54.blk.own).ext (n56.ext)).mod (ms79) (fun g hg e => (fun e => by have h : b54 = b17 := Option.some.inj e; omega) (hg.trans (congrArg some e)))).mod (ms80) (fun g hg e => (fun e => by have h : b54 = b17 := Option.some.inj e; omega) (hg.trans (congrArg some e)))
      have O84 := ((((((hO).ext (ed_10)).ext (n52.ext)).ext (n54.ext)).ext (n56.ext)).mod (ms79) (fun g hg e => (fun e => by have := (hB b17 e).1; omega) (hg.trans (congrArg some e)))).mod (ms80) (fun g hg e => (fun e => by have := (hB b17 e).1; omega) (hg.trans (congrArg some e)))
      have O85 := ((((((hIV).ext (ed_10)).ext (n52.ext)).ext (n54.ext)).ext (n56.ext)).mod (ms79) (fun g hg e => (fun e => by have := hivb b17 e; omega) (hg.trans (congrArg some e)))).mod (ms80) (fun g hg e => (fun e => by have := hivb b17 e; omega) (hg.trans (congrArg some e)))
      obtain ⟨T, hT1, hT2⟩ := new_mr (n0 := w.heap.size) bs80 B81 O82 O83 (by rw [← hi]; have h := O84; rw [hi] at h ⊢; rw [List.take_length] at h; exact h) O85 hivb (fun g hg => (hB g hg).1) hk52 hk54 hl52 hl54 hx52 hz56 hbb hivF h6 (by omega)
      exact ⟨_, Res.two (v := ptr b17 0) (v' := IN (0)) rfl rfl rfl, T, b17, rfl, hT1, hT2, E80⟩
    · have B86 := (h17).ext (ed_10)
      refine WL.makeSliceB (m := 65536) ap45 rfl rfl (by omega) (by omega) rfl ?_
      intro b54 w54 n54
      have hl54 : b17 < b54 := by have := (B86).lt; have := n54.num; omega
      have hk54 : ∀ g, cvv.ownBlock = some g → g < b54 := fun g hg => by have := (hB g hg).2; have := n54.num; have := Mod.size (R56); omega
      have R87 : Ext wr w54 := Mod.trans (R56) (n54.ext)
      have R88 : Ext wr w54 := Mod.trans (R57) (n54.ext)
      have E89 : Ext w w54 := Mod.trans (E58) (n54.ext)
      refine WL.behindS (R88) ?_
      refine WAL.take (i := 6) (m' := 103) (v := .agg #[U64 (8323072#64), .slice (some ⟨b54, 0, none⟩) (65536) (65536)]) rfl rfl rfl rfl (by kernel_rfl) rfl (fun _ _ _ h => h) (fun wx hS => ?_) (R88) ?_
      · exact WL.build (v := .agg #[U64 (8323072#64), .slice (some ⟨b54, 0, none⟩) (65536) (65536)]) (vs := [(0, U64 (8323072#64)), (1, .slice (some ⟨b54, 0, none⟩) (65536) (65536))]) rfl (bld10_55 b54 65536) rfl (WL.nil ⟨rfl, rfl, rfl⟩)
      refine WAL.one (i := 3) (m' := 111) (by kernel_rfl) rfl rfl ?_
      have B91 := (B86).ext (n54.ext)
      refine WL.makeSliceB (m := I.entry.toNat) ap45 (Eq.trans (rfl) hent) (Eq.trans (rfl) hent) (by omega) (by omega) rfl ?_
      intro b52 w52 n52
      have hl52 : b17 < b52 := by have := (B91).lt; have := n52.num; omega
      have hk52 : ∀ g, cvv.ownBlock = some g → g < b52 := fun g hg => by have := (hB g hg).2; have := n52.num; have := Mod.size (R87); omega
      have hx52 : b52 ≠ b54 := by have := n54.blk.lt; have := n52.num; omega
      have R93 : Ext wr w52 := Mod.trans (R88) (n52.ext)
      have E94 : Ext w w52 := Mod.trans (E89) (n52.ext)
      refine WL.behindS (R93) ?_
      refine WAL.take (i := 4) (m' := 127) (v := .agg #[U64 (4194304#64), .slice (some ⟨b52, 0, none⟩) (I.entry.toNat) (I.entry.toNat)]) rfl rfl rfl rfl (by kernel_rfl) rfl (fun _ _ _ h => h) (fun wx hS => ?_) (R93) ?_
      · exact WL.build (v := .agg #[U64 (4194304#64), .slice (some ⟨b52, 0, none⟩) (I.entry.toNat) (I.entry.toNat)]) (vs := [(0, U64 (4194304#64)), (1, .slice (some ⟨b52, 0, none⟩) (I.entry.toNat) (I.entry.toNat))]) rfl (bld10_53 b52 I.entry.toNat) rfl (WL.nil ⟨rfl, rfl, rfl⟩)
      refine WAL.one (i := 7) (m' := 255) (by kernel_rfl) rfl rfl ?_
      have B96 := (n54.blk).ext (n52.ext)
      refine WL.buildSlice (vs := [(0, .agg #[U64 (4194304#64), .slice (some ⟨b52, 0, none⟩) (I.entry.toNat) (I.entry.toNat)]), (1, .agg #[U64 (8323072#64), .slice (some ⟨b54, 0, none⟩) (65536) (65536)])]) rfl (bls10_56 b52 b54 I.entry.toNat 65536) rfl ?_
      intro b56 w56 n56
      have R98 : Ext wr w56 := Mod.trans (R93) (n56.ext)
      have E99 : Ext w w56 := Mod.trans (E94) (n56.ext)
      have hz56 : b52 < b56 ∧ b54 < b56 := by have := n56.num; have h1 := (n52.blk).lt; have h2 := (B96).lt; omega
      refine WL.behindS (R98) ?_
      refine WAL.one (i := 8) (m' := 511) (by kernel_rfl) rfl rfl ?_
      refine WL.nilCheck rfl rfl (WL.behindS (R98) ?_)
      refine WAL.take (i := 9) (m' := 1023) (v := ptr b17 0) rfl rfl rfl rfl (by kernel_rfl) rfl (fun _ _ _ h => h) (fun wx hS => ?_) (R98) ?_
      · exact WL.fieldAddr rfl fo85_0 rfl (WL.nil ⟨rfl, rfl, rfl⟩)
      refine WAL.one (i := 10) (m' := 2047) (by kernel_rfl) rfl rfl ?_
      have B101 := ((B91).ext (n52.ext)).ext (n56.ext)
      refine WL.storeB (v := .slice (some ⟨b56, 0, none⟩) 2 2) rfl rfl rfl sz80 B101 (Nat.le_of_ble_eq_true rfl) ?_
      intro ws102 ms102 bs102 zs102
      have E102 : Ext w ws102 := Mod.then (E99) (ms102) (fun i hi (e : i = b17) => absurd hi (by omega))
      refine WL.behindL (by kernel_rfl) ?_
      refine WAL.done (by kernel_rfl) ?_
      refine WC.seq (WC.region (WL.move (v := ptr b17 0) h6_1 rfl (WL.nilCheck rfl rfl (WL.fieldAddr rfl fo85_3 rfl (WL.indexArr (i := 2) ar68 sz39 rfl rfl (by omega) rfl (WL.storeB (v := U64 (8388608#64)) rfl rfl rfl sz39 bs102 (Nat.le_of_ble_eq_true rfl) ?_))))))
      intro ws103 ms103 bs103 zs103
      have E103 : Ext w ws103 := Mod.then (E102) (ms103) (fun i hi (e : i = b17) => absurd hi (by omega))
      refine WL.nil (WC.seq (WC.region (WL.move (v := ptr b17 0) h6_1 rfl (WL.assign (v := ptr b17 0) rfl rfl (WL.assign (v := IN (0)) rfl rfl (WL.nil (WC.ret ?_)))))))
      have B104 := ((n56.blk).mod (ms102) ((by omega))).mod (ms103) ((by omega))
      have O105 := (((n52.blk.own).ext (n56.ext)).mod (ms102) (fun g hg e => (fun e => by have h : b52 = b17 := Option.some.inj e; omega) (hg.trans (congrArg some e)))).mod (ms103) (fun g hg e => (fun e => by have h : b52 = b17 := Option.some.inj e; omega) (hg.trans (congrArg some e)))
      have O106 := ((((n54.blk.own).ext (n52.ext)).ext (n56.ext)).mod (ms102) (fun g hg e => (fun e => by have h : b54 = b17 := Option.some.inj e; omega) (hg.trans (congrArg some e)))).mod (ms103) (fun g hg e => (fun e => by have h : b54 = b17 := Option.some.inj e; omega) (hg.trans (congrArg some e)))
      have O107 := ((((((hO).ext (ed_10)).ext (n54.ext)).ext (n52.ext)).ext (n56.ext)).mod (ms102) (fun g hg e => (fun e => by have := (hB b17 e).1; omega) (hg.trans (congrArg some e)))).mod (ms103) (fun g hg e => (fun e => by have := (hB b17 e).1; omega) (hg.trans (congrArg some e)))
      have O108 := ((((((hIV).ext (ed_10)).ext (n54.ext)).ext (n52.ext)).ext (n56.ext)).mod (ms102) (fun g hg e => (fun e => by have := hivb b17 e; omega) (hg.trans (congrArg some e)))).mod (ms103) (fun g hg e => (fun e => by have := hivb b17 e; omega) (hg.trans (congrArg some e)))
      obtain ⟨T, hT1, hT2⟩ := new_mr (n0 := w.heap.size) bs103 B104 O105 O106 (by rw [← hi]; have h := O107; rw [hi] at h ⊢; rw [List.take_length] at h; exact h) O108 hivb (fun g hg => (hB g hg).1) hk52 hk54 hl52 hl54 hx52 hz56 hbb hivF h6 (by omega)
      exact ⟨_, Res.two (v := ptr b17 0) (v' := IN (0)) rfl rfl rfl, T, b17, rfl, hT1, hT2, E103⟩
end Go.Proofs.S
end
section
namespace Go.Ux
open Go
def pairT (P : Program) (t : Nat) : Bool :=
  match P.underlying t with
  | some (.struct fs) => match fs.toList with
    | [a, b] => a.name != "_" && b.name != "_" && a.offset == 0 && b.offset == 1 && (match P.underlying a.type with | some (.int _) => true | _ => false) && (match P.underlying b.type with | some (.int _) => true | _ => false) && isAggT P a.type == some false && isAggT P b.type == some false && !P.stoodInHeld t
    | _ => false
  | _ => false
theorem equal_pair {P : Program} {t : Nat} (h : pairT P t = true) (k1 k2 : IntKind) (a b x y : Int) (w : World) : (Op.equal t (.agg #[.int k1 a, .int k2 x]) (.agg #[.int k1 b, .int k2 y])).run P w = .ok (a == b && x == y) w := by
  unfold pairT at h
  split at h <;> try cases h
  rename_i fs hu
  split at h <;> try cases h
  rename_i fa fb hl
  simp only [Bool.and_eq_true, bne_iff_ne, beq_iff_eq, Bool.not_eq_true'] at h
  obtain ⟨⟨⟨⟨⟨⟨⟨⟨h1, h2⟩, h3⟩, h4⟩, h5⟩, h6⟩, h7⟩, h8⟩, h9⟩ := h
  split at h5 <;> try cases h5
  rename_i ka hia
  split at h6 <;> try cases h6
  rename_i kb hib
  have hf : P.fieldsOf t = fs := by simp [Program.fieldsOf, hu]
  show (Op.equalIn (9999 + 1) t _ _).run P w = _
  rw [run_equalIn_struct (P := P) w 9999 t _ _ (by rw [hf]; exact hu) h9, hf, hl]
  have e1 : ∀ w, (Op.equalIn 9999 fa.type (.int k1 a) (.int k1 b)).run P w = .ok (a == b) w := fun w => by
    show (Op.equalIn (9998 + 1) fa.type (.int k1 a) (.int k1 b)).run P w = _
    unfold Op.equalIn
    simp [run_underlying hia, Result.andThen]
  have e2 : ∀ w, (Op.equalIn 9999 fb.type (.int k2 x) (.int k2 y)).run P w = .ok (x == y) w := fun w => by
    show (Op.equalIn (9998 + 1) fb.type (.int k2 x) (.int k2 y)).run P w = _
    unfold Op.equalIn
    simp [run_underlying hib, Result.andThen]
  simp only [Op.eqFields, h1, h2, h3, h4, ne_eq, not_false_eq_true, if_true]
  have p1 : ∀ (u v : Value) (w : World), (part fa.type #[u, v] 0).run P w = .ok u w := fun u v w => by simp [part, isAggT_run h7, Result.andThen]
  have p2 : ∀ (u v : Value) (w : World), (part fb.type #[u, v] 1).run P w = .ok v w := fun u v w => by simp [part, isAggT_run h8, Result.andThen]
  simp only [Sem.run_bind, p1, e1, Result.andThen]
  generalize (a == b) = p at *
  generalize (x == y) = q at *
  cases p <;> cases q <;> simp [p2, e2, Result.andThen]
theorem beqInt {n : Nat} (x y : BitVec n) : (x.toInt == y.toInt) = (x == y) := by
  rw [Bool.eq_iff_iff]
  simp only [beq_iff_eq]
  exact ⟨BitVec.eq_of_toInt_eq, fun h => by rw [h]⟩
theorem BinR.eqlEv {P : Program} {t : Nat} (h : pairT P t = true) (hg : P.eqGuardType P.depth t = false) {a b : BitVec 8} {x y : BitVec 64} : BinR P .eql t (.agg #[U8 a, I64 x]) (.agg #[U8 b, I64 y]) (.bool (a == b && x == y)) := fun o o' w => by
  have e := equal_pair h .u8 .i64 a.toNat b.toNat x.toInt y.toInt w
  rw [beqNat, beqInt] at e
  simp only [eqGuard, binOp, Sem.run_bind, Sem.run_pure, Result.andThen]; simp [e, hg]
end Go.Ux
end
section
set_option linter.unusedSimpArgs false
set_option linter.unusedVariables false
namespace Go.Proofs.S
open Go Go.Ux Go.Ux.Mach Go.Proofs
theorem zt25 : zeroT Tryz.prog 25 = some #[.int .i64 0, .slice none 0 0, .slice none 0 0] := by kernel_rfl
theorem bld20_6  : ∀ w : World, (Instr.build 98 #[(0, St [115, 116, 97, 114, 116])]).run Tryz.prog w = .ok (.agg #[St [115, 116, 97, 114, 116], IN (0)]) w := fun _ => by kernel_rfl
theorem bls20_7  : ∀ w : World, (Instr.buildSlice 22 1 #[(0, .agg #[St [115, 116, 97, 114, 116], IN (0)])]).run Tryz.prog w = .ok (.slice (some ⟨w.heap.size, 0, none⟩) 1 1) (w.alloc (.cells #[St [115, 116, 97, 114, 116], IN (0)] 98)) := fun _ => by kernel_rfl
theorem bld20_9 (x : Int) (p : Nat) (a : Option Addr) (n c : Nat) : ∀ w : World, (Instr.build 25 #[(0, .int .i64 (x)), (1, .slice (some ⟨p, 0, none⟩) 1 1), (2, .slice a n c)]).run Tryz.prog w = .ok (.agg #[.int .i64 (x), .slice (some ⟨p, 0, none⟩) 1 1, .slice a n c]) w := fun _ => by kernel_rfl
theorem bls9_6  : ∀ w : World, (Instr.buildSlice 23 5 #[(0, U32 (7341331#32)), (1, U32 (2099347#32)), (2, U32 (115#32)), (3, U32 (3147923#32)), (4, U32 (115#32))]).run Tryz.prog w = .ok (.slice (some ⟨w.heap.size, 0, none⟩) 5 5) (w.alloc (.cells #[U32 (7341331#32), U32 (2099347#32), U32 (115#32), U32 (3147923#32), U32 (115#32)] 50)) := fun _ => by kernel_rfl
theorem ca20 : callable Tryz.prog 20 = true := by kernel_rfl
theorem ca10 : callable Tryz.prog 10 = true := by kernel_rfl
theorem ca11 : callable Tryz.prog 11 = true := by kernel_rfl
theorem ca14 : callable Tryz.prog 14 = true := by kernel_rfl
theorem el34 : elemT Tryz.prog 34 = some 38 := by kernel_rfl
theorem sz38 : sizeT Tryz.prog 38 = some 2 := by kernel_rfl
theorem ag38 : isAggT Tryz.prog 38 = some true := by kernel_rfl
theorem bld9_30  : ∀ w : World, (Instr.build 38 #[(0, .int .u8 (2)), (1, I64 (7#64))]).run Tryz.prog w = .ok (.agg #[.int .u8 (2), I64 (7#64)]) w := fun _ => by kernel_rfl
theorem bld9_37  : ∀ w : World, (Instr.build 38 #[(0, .int .u8 (3)), (1, I64 (7#64))]).run Tryz.prog w = .ok (.agg #[.int .u8 (3), I64 (7#64)]) w := fun _ => by kernel_rfl
theorem ca13 : callable Tryz.prog 13 = true := by kernel_rfl
theorem ca16 : callable Tryz.prog 16 = true := by kernel_rfl
open Go.Proofs.M (instV Glob findRow decodeAt decReg rowIs findRow_lt)
open Go.Ux.Image
theorem glob_size {w : World} (h : Glob w) : 6 ≤ w.heap.size := by
  have := World.block_lt_of_cell? w _ (h.f7 0 _ rfl)
  exact this
theorem findRow_pos {x : BitVec 32} {i : Nat} (h : findRow x tableD = some i) : 1 ≤ i := by
  rcases Nat.eq_zero_or_pos i with h0 | h0
  · subst h0
    unfold findRow at h
    rw [List.findIdx?_eq_some_iff_getElem] at h
    obtain ⟨hl, h1, _⟩ := h
    exact absurd h1 (by show ¬ rowIs zeroRow x = true; unfold rowIs; simp [zeroRow, RvRow.form, formOf, zeroForm])
  · exact h0
theorem decReg_lt (has : Bool) (k : Nat) (x : BitVec 32) : (decReg has (k, 5) x).toNat < 32 := by
  unfold decReg
  split
  · have h1 : ((1#32 <<< 5) - 1#32 : BitVec 32) = 31#32 := by decide
    simp only [bitsOf, h1, BitVec.toNat_setWidth, BitVec.toNat_and]
    have : (x >>> k).toNat &&& (31#32 : BitVec 32).toNat ≤ 31 := Nat.and_le_right
    omega
  · decide
theorem decI_ok {x : BitVec 32} (h : (decW x).2 = true) : 1 ≤ (decI x).op.toNat ∧ (decI x).op.toNat < 66 ∧ ((decI x).rs1).toNat < 32 ∧ ((decI x).rs2).toNat < 32 ∧ ((decI x).rd).toNat < 32 := by
  have h0 : (((decE x : Nat) : Int) == (0 : Int)) = true := by
    rcases Bool.eq_false_or_eq_true (((decE x : Nat) : Int) == (0 : Int)) with h1 | h1
    · exact h1
    · rw [decW_F h1] at h; cases h
  unfold decE at h0
  unfold decI
  rcases hf : findRow x tableD with _ | i
  · rw [hf] at h0; cases h0
  · have h1 := findRow_pos hf
    have h2 : i < 66 := findRow_lt hf
    have e : (BitVec.ofNat 8 i).toNat = i := by rw [BitVec.toNat_ofNat]; omega
    refine ⟨?_, ?_, decReg_lt _ _ _, decReg_lt _ _ _, decReg_lt _ _ _⟩
    · show 1 ≤ (BitVec.ofNat 8 i).toNat; omega
    · show (BitVec.ofNat 8 i).toNat < 66; omega
theorem newM_code {I : Img} {inp : List (BitVec 64)} (h : I.words.length ≤ 262144) : CodeOk (newM I inp).code := by
  refine ⟨by show (I.words.map decW).length ≤ _; rw [List.length_map]; omega, fun p hp h2 => ?_⟩
  obtain ⟨x, _, rfl⟩ := List.mem_map.1 hp
  exact decI_ok h2
theorem pair38 : pairT Tryz.prog 38 = true := by kernel_rfl
theorem pairg38 : Tryz.prog.eqGuardType Tryz.prog.depth 38 = false := by kernel_rfl
def workI : Img := ⟨0, [([115, 116, 97, 114, 116], 0)], [7341331#32, 2099347#32, 115#32, 3147923#32, 115#32]⟩
theorem work_right : rightB workI = true := by kernel_rfl
theorem work_n : (runN 100 (newM workI [])).1 = 5 := by kernel_rfl
theorem work_ev : (runN 100 (newM workI [])).2.events = [(2#8, 7#64), (3#8, 7#64)] := by kernel_rfl
theorem work_fin : (runN 100 (newM workI [])).2.fin = some false := by kernel_rfl
theorem whole_spec (a : Option Addr) (n c : Nat) (dat : Int) (w : World) : CallsR Tryz.prog 20 #[.slice a n c, .int .i64 (dat)] w (fun v w' => ∃ p, v = .agg #[.int .i64 dat, .slice (some ⟨p, 0, none⟩) 1 1, .slice a n c] ∧ Sl w' (.slice (some ⟨p, 0, none⟩) 1 1) 2 1 (symCells [([115, 116, 97, 114, 116], 0)]) ∧ Ext w w') := by
  refine callsR_of Tryz.func20 rfl rfl rfl ?_
  refine WC.seq (WC.region (WL.alloc zt25 rfl ?_))
  intro b4 w4 n4
  have E1 : Ext w w4 := Mod.trans (Mod.refl _ _) (n4.ext)
  refine WL.nil (WC.seq (WC.region (WL.move (v := .int .i64 (dat)) rfl rfl (WL.build (v := .agg #[St [115, 116, 97, 114, 116], IN (0)]) (vs := [(0, St [115, 116, 97, 114, 116])]) rfl (bld20_6) rfl (WL.buildSlice (vs := [(0, .agg #[St [115, 116, 97, 114, 116], IN (0)])]) rfl (bls20_7) rfl ?_)))))
  intro b7 w7 n7
  have E2 : Ext w w7 := Mod.trans (E1) (n7.ext)
  refine WL.move (v := .slice a n c) rfl rfl (WL.build (v := .agg #[.int .i64 (dat), .slice (some ⟨b7, 0, none⟩) 1 1, .slice a n c]) (vs := [(0, .int .i64 (dat)), (1, .slice (some ⟨b7, 0, none⟩) 1 1), (2, .slice a n c)]) rfl (bld20_9 dat b7 a n c) rfl ?_)
  have B3 := (n4.blk).ext (n7.ext)
  refine WL.storeS (v := .agg #[.int .i64 (dat), .slice (some ⟨b7, 0, none⟩) 1 1, .slice a n c]) rfl rfl B3 rfl sz25 rfl rfl ?_
  intro ws4 ms4 bs4 zs4
  have E4 : Ext w ws4 := Mod.own (Mod.refl _ _) n4 (E2) (ms4)
  refine WL.nil (WC.ret ?_)
  have B5 := (n7.blk).mod (ms4) (Ne.symm ((n4.blk).ne n7))
  exact ⟨_, Res.cell rfl rfl (loadVar_agg [.int .i64 (dat), .slice (some ⟨b7, 0, none⟩) 1 1, .slice a n c] ag25 sz25 rfl (bs4.sub (o := 0) rfl)), b7, rfl, (Sl.of1 (B5).cells rfl), E4⟩
set_option maxRecDepth 100000 in
theorem works_spec (w : World) (hG : Glob w) (hX : w.cell? ⟨3, 0, none⟩ = some (.iface 206 (.agg #[.pointer (some ⟨6, 83, none⟩)]))) : CallsR Tryz.prog 9 #[] w (fun v w' => v = .bool true ∧ Ext w w') := by
  refine callsR_of Tryz.func9 rfl rfl rfl ?_
  refine WC.seq (WC.region (WL.assign (v := .bool (false)) rfl rfl (WL.nil (WC.seq (WC.region (WL.buildSlice (vs := [(0, U32 (7341331#32)), (1, U32 (2099347#32)), (2, U32 (115#32)), (3, U32 (3147923#32)), (4, U32 (115#32))]) rfl (bls9_6) rfl ?_))))))
  intro b6 w6 n6
  have E1 : Ext w w6 := Mod.trans (Mod.refl _ _) (n6.ext)
  refine WL.call ca20 (rfl) rfl (whole_spec (some ⟨b6, 0, none⟩) 5 5 0 _) ?_
  rintro _ wwh ⟨p, rfl, hsy, ewh⟩
  have E2 : Ext w wwh := Mod.trans (E1) (ewh)
  have B3 := (n6.blk).ext (ewh)
  have hRW : Rep wwh (.slice (some ⟨p, 0, none⟩) 1 1) (.slice (some ⟨b6, 0, none⟩) 5 5) workI := ⟨hsy, Go.Proofs.M.Sl.ofCells (n := 5) (B3).cells rfl, by decide, by decide⟩
  refine WL.call ca10 (rfl) rfl (new_ok workI _ _ (.slice none 0 0) [] _ hRW (by decide) (hG.ext (E2)) (glob_size (hG.ext (E2))) (Sl.nil _ _ _) (.inl rfl) (by decide) work_right) ?_
  rintro _ wne ⟨T, b, rfl, hM, hT, ene⟩
  have hTw : ∀ k, T k ≠ 0 → w.heap.size ≤ k := fun k h => Nat.le_trans (Mod.size (E2)) (hT k h)
  have E4 : Ext w wne := Mod.trans (E2) (ene)
  refine WL.move (v := .tuple #[ptr b 0, IN 0]) rfl rfl (WL.extract rfl rfl rfl (WL.extract rfl rfl rfl (WL.assign (v := ptr b 0) rfl rfl (WL.assign (v := IN (0)) rfl rfl (WL.nil (WC.seq (WC.region (WL.move (v := ptr b 0) rfl rfl (WL.call ca11 (rfl) rfl (run_spec T b (newM workI []) _ hM 100 (by decide) (newM_code (by decide)) (hG.ext (E4)) (Mod.cell (E4) hX (fun h => h)) (by decide)) ?_)))))))))
  rintro v12 wru ⟨hv12, T1, hM1, m1, hs1⟩
  obtain rfl : v12 = IN 5 := hv12.trans (congrArg (fun n : Nat => IN n) work_n)
  have EM5 : Ext w wru := Mod.then (E4) m1 (fun i hi e => absurd (hTw i e) (Nat.not_le_of_lt hi))
  refine WL.assign (v := IN (5)) rfl rfl (WL.nil (WC.seq (WC.region (WL.move (v := ptr b 0) rfl rfl ?_))))
  have hle : (runN (100 : Int).toNat (newM workI [])).2.events = [(2#8, 7#64), (3#8, 7#64)] := work_ev
  refine WL.call ca14 (rfl) rfl (events_spec T1 b _ _ hM1 (by rw [hle]; decide)) ?_
  rintro v14 wev ⟨hc1, hc2, hc3⟩
  rw [hle] at hc1
  have E6 : Ext w wev := Mod.trans (EM5) (hc3)
  refine WL.assign (v := v14) rfl rfl (WL.nil (WC.seq (WC.region (WL.move (v := IN (0)) rfl rfl (WL.bin (v := .bool (true)) rfl rfl rfl (BinR.toB (BinR.eql) (rfl)) (WL.move (v := .bool (true)) rfl rfl (WL.guardT (rfl) (WL.move (v := IN (5)) rfl rfl (WL.guardT (rfl) ?_)))))))))
  refine WL.bin (v := .bool (true)) rfl rfl rfl (BinR.toB (BinR.eql) (rfl)) (WL.pick (b := true) rfl rfl rfl (WL.move (v := .bool (true)) rfl rfl (WL.guardT (rfl) (WL.move (v := v14) rfl rfl (WL.guardT (rfl) (WL.lenSl (sz := 2) (m := 2) (xs := evV [(2#8, 7#64), (3#8, 7#64)]) el34 rfl (hc1.sl) rfl (WL.guardT (rfl) (WL.bin (v := .bool (true)) rfl rfl rfl (BinR.toB (BinR.eql) (rfl)) (WL.pick (b := true) rfl rfl rfl ?_)))))))))
  refine WL.move (v := .bool (true)) rfl rfl (WL.guardT (rfl) (WL.move (v := v14) rfl rfl (WL.guardT (rfl) (WL.indexSl (sz := 2) (m := 2) (xs := evV [(2#8, 7#64), (3#8, 7#64)]) (i := 0) el34 sz38 rfl rfl (by omega) (hc1.sl) rfl ?_))))
  intro b28 o28 hb28 hc28
  refine WL.guardT (rfl) (WL.loadS [U8 2#8, I64 7#64] rfl ag38 sz38 rfl (cells2 (i := 0) hc28 rfl rfl) rfl (WL.guardT (rfl) (WL.build (v := .agg #[.int .u8 (2), I64 (7#64)]) (vs := [(0, .int .u8 (2)), (1, I64 (7#64))]) rfl (bld9_30) rfl (WL.guardT (rfl) (WL.bin (vx := .agg #[U8 2#8, I64 7#64]) (vy := .agg #[U8 2#8, I64 7#64]) (v := .bool true) rfl rfl rfl (BinR.toB (BinR.eqlEv pair38 pairg38) (by decide)) (WL.pick (b := true) rfl rfl rfl (WL.move (v := .bool (true)) rfl rfl (WL.guardT (rfl) (WL.move (v := v14) rfl rfl ?_)))))))))
  refine WL.guardT (rfl) (WL.indexSl (sz := 2) (m := 2) (xs := evV [(2#8, 7#64), (3#8, 7#64)]) (i := 1) el34 sz38 rfl rfl (by omega) (hc1.sl) rfl ?_)
  intro b35 o35 hb35 hc35
  refine WL.guardT (rfl) (WL.loadS [U8 3#8, I64 7#64] rfl ag38 sz38 rfl (cells2 (i := 1) hc35 rfl rfl) rfl (WL.guardT (rfl) (WL.build (v := .agg #[.int .u8 (3), I64 (7#64)]) (vs := [(0, .int .u8 (3)), (1, I64 (7#64))]) rfl (bld9_37) rfl (WL.guardT (rfl) (WL.bin (vx := .agg #[U8 3#8, I64 7#64]) (vy := .agg #[U8 3#8, I64 7#64]) (v := .bool true) rfl rfl rfl (BinR.toB (BinR.eqlEv pair38 pairg38) (by decide)) (WL.pick (b := true) rfl rfl rfl (WL.move (v := .bool (true)) rfl rfl (WL.guardT (rfl) (WL.move (v := ptr b 0) rfl rfl ?_)))))))))
  refine WL.guardT (rfl) (WL.call ca13 (rfl) rfl (ended_spec T1 b _ _ (hM1.ext (hc3))) ?_)
  rintro _ we ⟨rfl, ee⟩
  rw [show (runN (100 : Int).toNat (newM workI [])).2.fin = some false from work_fin]
  have E7 : Ext w we := Mod.trans (E6) (ee)
  refine WL.pick (b := true) rfl rfl rfl (WL.move (v := .bool (true)) rfl rfl (WL.guardT (rfl) (WL.move (v := ptr b 0) rfl rfl (WL.guardT (rfl) (WL.call ca16 (rfl) rfl (trapped_m T1 b _ _ (hM1.ext (hc3.trans ee)) (Mod.cell (E7) hX (fun h => h))) ?_)))))
  rintro _ wt ⟨rfl, et⟩
  rw [show (runN (100 : Int).toNat (newM workI [])).2.fin = some false from work_fin]
  have E8 : Ext w wt := Mod.trans (E7) (et)
  refine WL.guardT (rfl) (WL.un rfl rfl UnR.not (WL.pick (b := true) rfl rfl rfl (WL.assign (v := .bool (true)) rfl rfl (WL.nil (WC.ret ?_)))))
  exact ⟨_, Res.one (v := .bool (true)) rfl rfl, rfl, E8⟩
end Go.Proofs.S
end
section
set_option linter.unusedSimpArgs false
set_option linter.unusedVariables false
namespace Go.Proofs.S
open Go Go.Ux Go.Ux.Mach Go.Proofs
theorem ca9 : callable Tryz.prog 9 = true := by kernel_rfl
theorem fo25_1 : fieldOff Tryz.prog 25 1 = some 1 := by kernel_rfl
theorem ag22 : isAggT Tryz.prog 22 = some false := by kernel_rfl
theorem el22 : elemT Tryz.prog 22 = some 98 := by kernel_rfl
theorem ca17 : callable Tryz.prog 17 = true := by kernel_rfl
open Go.Proofs.M (instV Glob)
open Go.Ux.Image
theorem runN_add : ∀ (a b : Nat) (M : MS), runN (a + b) M = ((runN a M).1 + (runN b (runN a M).2).1, (runN b (runN a M).2).2)
  | 0, b, M => by rw [Nat.zero_add]; show _ = (0 + (runN b M).1, (runN b M).2); rw [Nat.zero_add]
  | a + 1, b, M => by
    rcases hf : M.fin with _ | t
    · rw [show a + 1 + b = (a + b) + 1 by omega, runN_go hf, runN_go hf, runN_add a b (stepM M)]
      refine Prod.ext ?_ rfl
      show (runN a (stepM M)).1 + (runN b (runN a (stepM M)).2).1 + 1 = (runN a (stepM M)).1 + 1 + (runN b (runN a (stepM M)).2).1
      omega
    · have h : M.fin.isSome = true := by rw [hf]; rfl
      rw [runN_end h (a + 1 + b), runN_end h (a + 1)]
      show (0, M) = (0 + (runN b M).1, (runN b M).2)
      rw [runN_end h b]; rfl
theorem run_specN (T : Nat → Nat) (b : Nat) (M : MS) (w : World) (h : MR T w b M) (n : Nat) (hn : n ≤ 1000000) (hc : CodeOk M.code) (hG : Glob w) (hX : w.cell? ⟨3, 0, none⟩ = some (.iface 206 (.agg #[.pointer (some ⟨6, 83, none⟩)]))) (hev : M.events.length ≤ 1000000) :
    CallsR Tryz.prog 11 #[ptr b 0, IN n] w (fun v w' => v = IN (runN n M).1 ∧ Turn T w b (runN n M).2 w') :=
  run_spec T b M w h (n : Int) (by omega) hc hG hX (by rw [Int.toNat_natCast]; omega)
theorem floor_turn {T T' : Nat → Nat} {w w1 : World} (h : ∀ k, T k ≠ 0 → w.heap.size ≤ k) (hs : ∀ k, T' k ≠ 0 → T k ≠ 0 ∨ w1.heap.size ≤ k) (hw : w.heap.size ≤ w1.heap.size) : ∀ k, T' k ≠ 0 → w.heap.size ≤ k := fun k hk => by
  rcases hs k hk with h1 | h1
  · exact h k h1
  · omega
end Go.Proofs.S
end
section
set_option linter.unusedSimpArgs false
set_option linter.unusedVariables false
namespace Go.Proofs.S
open Go Go.Ux Go.Ux.Mach Go.Proofs
theorem el49 : elemT Tryz.prog 49 = some 48 := by kernel_rfl
theorem bls19_25 (z : Int) : ∀ w : World, (Instr.buildSlice 23 1 #[(0, .int .u32 z)]).run Tryz.prog w = .ok (.slice (some ⟨w.heap.size, 0, none⟩) 1 1) (w.alloc (.cells #[.int .u32 z] 50)) := fun _ => by kernel_rfl
theorem ap23 : appT Tryz.prog 23 = some (50, 1, 4, #[.int .u32 0]) := by kernel_rfl
open Go.Proofs.M (instV Glob)
open Go.Ux.Image
def instCells (l : List RvInst) : List Value := l.flatMap fun a => [U8 a.op, U8 a.rd, U8 a.rs1, U8 a.rs2, I64 a.imm]
theorem instCells_get (l : List RvInst) (i : Nat) (h : i < l.length) (j : Nat) (hj : j < 5) : (instCells l)[i * 5 + j]? = [U8 l[i].op, U8 l[i].rd, U8 l[i].rs1, U8 l[i].rs2, I64 l[i].imm][j]? := by
  induction l generalizing i with
  | nil => simp at h
  | cons a r ih =>
    cases i with
    | zero =>
      simp only [instCells, List.flatMap_cons, Nat.zero_mul, Nat.zero_add, List.getElem_cons_zero]
      rw [List.getElem?_append_left (by simpa using hj)]
    | succ i =>
      have := ih i (by simpa using h)
      simp only [List.getElem_cons_succ]
      rw [← this]
      simp only [instCells, List.flatMap_cons]
      rw [List.getElem?_append_right (by simp; omega)]
      congr 1
      simp; omega
theorem inst_at {w : World} {b o : Nat} {l : List RvInst} (h : Cells w b o (instCells l)) {i : Nat} (hi : i < l.length) : Cells w b (o + i * 5) [U8 l[i].op, U8 l[i].rd, U8 l[i].rs1, U8 l[i].rs2, I64 l[i].imm] := by
  intro j u hj
  have hj5 : j < 5 := by have := (List.getElem?_eq_some_iff.1 hj).1; simpa using this
  rw [Nat.add_assoc]
  exact h (i * 5 + j) u (by rw [instCells_get l i hi j hj5]; exact hj)
def codeW (l : List RvInst) : List (BitVec 32) := l.filterMap fun a => if (encodeR a).2 = 0 then some (encodeR a).1 else none
theorem codeW_take (l : List RvInst) (i : Nat) (h : i < l.length) : codeW (l.take (i + 1)) = codeW (l.take i) ++ (if (encodeR l[i]).2 = 0 then [(encodeR l[i]).1] else []) := by
  unfold codeW
  rw [List.take_add_one, List.filterMap_append, List.getElem?_eq_getElem h]
  congr 1
  simp only [Option.toList, List.filterMap_cons, List.filterMap_nil]
  split
  · rename_i h2; split at h2
    · cases h2
    · rename_i h3; rw [if_neg h3]
  · rename_i h2; split at h2
    · rename_i h3; cases h2; rw [if_pos h3]
    · cases h2
theorem codeW_le (l : List RvInst) : (codeW l).length ≤ l.length := List.length_filterMap_le _ _
set_option maxRecDepth 100000 in
theorem code_spec (lv : Value) (l : List RvInst) (w : World) (hG : Glob w) (hS : Sl w lv 5 l.length (instCells l)) (hl : l.length ≤ 100000) : CallsR Tryz.prog 19 #[lv] w (fun v w' => Ux.Own w' 1 v (codeW l).length (wordCells (codeW l)) ∧ From w.heap.size v ∧ Ext w w') := by
  refine callsR_of Tryz.func19 rfl rfl rfl ?_
  refine WC.seq (WC.region (WL.assign (v := .slice none 0 0) rfl rfl (WL.nil (WC.seq (WC.region (WL.assign (v := .slice none 0 0) rfl rfl (WL.nil (WC.seq (WC.seq ?_)))))))))
  refine WC.region (WL.assign (v := IN (0)) rfl rfl (WL.nil (WC.block ?_)))
  refine WC.loop (fun k f w_ => ∃ i v, (k + i = l.length) ∧ f 0 = lv ∧ f 3 = v ∧ f 4 = IN (i) ∧ (Ext w w_) ∧ (Ux.Own w_ 1 v (codeW (l.take i)).length (wordCells (codeW (l.take i)))) ∧ (From w.heap.size v)) (l.length) ?_ ?_
  · exact ⟨(0), (.slice none 0 0), by omega, rfl, rfl, rfl, Mod.refl _ _, Ux.Own.nil _ 1, fun g hg => by cases hg⟩
  rintro ka f1 wr ⟨i, v, hk1, h0_1, h3_1, h4_1, hE, hO, hF⟩
  refine WC.seq (WC.seq (WC.region (WL.move (v := IN (i)) h4_1 rfl (WL.move (v := lv) h0_1 rfl (WL.lenSl (sz := 5) (m := l.length) (xs := instCells l) el49 rfl ((hS).ext' (hE)) rfl (WL.bin rfl rfl rfl (BinR.lss) (WL.nil ?_)))))))
  refine WC.cond rfl (fun hc10 => ?_) (fun hc10 => ?_)
  · have hi : i < l.length := by have := of_decide_eq_true hc10; omega
    obtain ⟨bl, ol, cl, el, hcl⟩ := hS.at (by omega)
    have hle := codeW_le (l.take i)
    have hle2 : (l.take i).length ≤ l.length := by rw [List.length_take]; omega
    refine WC.skip (WC.seq (WC.block (WC.seq (WC.region (WL.move (v := lv) h0_1 rfl (WL.move (v := IN (i)) h4_1 rfl (WL.indexAddr (i := i) (b := bl) (o := ol) el49 sz48 (Eq.trans (rfl) el) rfl (by omega) rfl (WL.loadS [U8 ((l[i]).op), U8 ((l[i]).rd), U8 ((l[i]).rs1), U8 ((l[i]).rs2), I64 ((l[i]).imm)] rfl ag48 sz48 rfl (inst_at (hcl.ext (hE)) hi) rfl (WL.call ca28 (rfl) rfl (encode_spec (l[i]) _ (hG.ext (hE))) ?_)))))))))
    rintro _ wc18 ⟨rfl, ec18⟩
    have E2 : Ext w wc18 := Mod.trans (hE) (ec18)
    refine WL.move (v := .tuple #[U32 (encodeR (l[i])).1, IN (encodeR (l[i])).2]) rfl rfl (WL.extract rfl rfl rfl (WL.extract rfl rfl rfl (WL.assign (v := U32 ((encodeR (l[i])).1)) rfl rfl (WL.assign (v := IN ((encodeR (l[i])).2)) rfl rfl (WL.nil (WC.seq (WC.region (WL.move (v := IN ((encodeR (l[i])).2)) rfl rfl (WL.bin rfl rfl rfl (BinR.eql) ?_)))))))))
    refine WL.nil ?_
    refine WC.cond rfl (fun hc22 => ?_) (fun hc22 => ?_)
    · have hz : (encodeR (l[i])).2 = 0 := by simpa using hc22
      refine WC.region (WL.move (v := v) h3_1 rfl (WL.move (v := U32 ((encodeR (l[i])).1)) rfl rfl (WL.buildSlice (vs := [(0, U32 ((encodeR (l[i])).1))]) rfl (bls19_25 (((encodeR (l[i])).1).toNat : Int)) rfl ?_)))
      intro b25 w25 n25
      have E4 : Ext w w25 := Mod.trans (E2) (n25.ext)
      have O5 := ((hO).ext (ec18)).ext (n25.ext)
      refine WL.append (k := (codeW (l.take i)).length) (m := 1) (xs := wordCells (codeW (l.take i))) (news := [U32 (encodeR (l[i])).1]) ap23 rfl rfl rfl (O5) ((Sl.of1 (n25.blk).cells rfl).src Tryz.underlying23 (List.all_eq_true.1 rfl)) (by omega) (by omega) rfl ?_
      intro v26 w26 o26 m26 l26
      have o26b : Ux.Own w26 1 v26 ((codeW (l.take (i + 1))).length) (wordCells (codeW (l.take (i + 1)))) := by rw [codeW_take l i hi, if_pos hz, List.length_append]; unfold wordCells; rw [List.map_append]; exact o26
      have F6 : From w.heap.size v26 := LocV.from l26 (Mod.size (E4)) (hF)
      have E7 : Ext w w26 := Mod.from (E4) m26 (hF)
      refine WL.assign (v := v26) rfl rfl (WL.nil (WC.region (WL.move (v := IN (i)) h4_1 rfl (WL.bin rfl rfl rfl (BinR.succN (by omega)) (WL.assign (v := IN (i + 1)) rfl rfl (WL.nil ?_))))))
      exact ⟨ka - 1, by omega, (i + 1), (v26), by omega, h0_1, rfl, rfl, E7, o26b, F6⟩
    · have hz : ¬ (encodeR (l[i])).2 = 0 := by simpa using hc22
      refine WC.skip (WC.region (WL.move (v := IN (i)) h4_1 rfl (WL.bin rfl rfl rfl (BinR.succN (by omega)) (WL.assign (v := IN (i + 1)) rfl rfl (WL.nil ?_)))))
      have O8 := (hO).ext (ec18)
      have hO2 : Ux.Own wc18 1 v (codeW (l.take (i + 1))).length (wordCells (codeW (l.take (i + 1)))) := by rw [codeW_take l i hi, if_neg hz, List.append_nil]; exact O8
      exact ⟨ka - 1, by omega, (i + 1), (v), by omega, h0_1, h3_1, rfl, E2, hO2, hF⟩
  · have hi2 : l.length ≤ i := by have := of_decide_eq_false hc10; omega
    refine WC.exit (WC.seq (WC.region (WL.move (v := v) h3_1 rfl (WL.assign (v := v) rfl rfl (WL.nil (WC.ret ?_))))))
    exact ⟨_, Res.one (v := v) rfl rfl, (by have h := hO; rw [show l.take i = l from List.take_of_length_le hi2] at h; exact h), hF, hE⟩
end Go.Proofs.S
end
section
namespace Go.Proofs.S
open Go Go.Ux Go.Ux.Mach
end Go.Proofs.S
end
section
namespace Go.Proofs.S
open Go Go.Ux Go.Ux.Mach Go.Proofs Go.Proofs.M Go.Ux.Image
set_option linter.unusedVariables false
def apart (i j : Nat) : Bool := ((rvAt i).mtch &&& (rvAt j).form.mask) != ((rvAt j).mtch &&& (rvAt i).form.mask)
theorem rows_apart : ((List.range 66).all fun i => (List.range i).all fun j => j == 0 || apart i j) = true := by kernel_rfl
theorem row_zero : (rvAt 0).form.mask = 0#32 := rfl
theorem row_masks : ((List.range 66).all fun i => i == 0 || (rvAt i).form.mask != 0#32) = true := by kernel_rfl
theorem findRow_of {x : BitVec 32} {i : Nat} (h0 : 0 < i) (h : i < 66) (hx : x &&& (rvAt i).form.mask = (rvAt i).mtch) : findRow x tableD = some i := by
  unfold findRow
  rw [List.findIdx?_eq_some_iff_getElem]
  refine ⟨by rw [tableD_length]; exact h, ?_, fun j hj => ?_⟩
  · rw [rvAt_eq i (by rw [tableD_length]; exact h)]
    have hm := List.all_eq_true.1 row_masks i (List.mem_range.2 h)
    have : (i == 0) = false := by simp; omega
    rw [this, Bool.false_or] at hm
    unfold rowIs; rw [hm, hx]; simp
  · rw [rvAt_eq j (by rw [tableD_length]; omega)]
    unfold rowIs
    rcases Nat.eq_zero_or_pos j with rfl | hj0
    · rw [row_zero]; simp
    · have h1 := List.all_eq_true.1 (List.all_eq_true.1 rows_apart i (List.mem_range.2 h)) j (List.mem_range.2 hj)
      have h2 : (j == 0) = false := by simp; omega
      rw [h2, Bool.false_or] at h1
      unfold apart at h1
      intro hc
      rw [Bool.and_eq_true] at hc
      have h3 : x &&& (rvAt j).form.mask = (rvAt j).mtch := by simpa using hc.2
      have h4 : ((rvAt i).mtch &&& (rvAt j).form.mask) = ((rvAt j).mtch &&& (rvAt i).form.mask) := by
        rw [← hx, ← h3, BitVec.and_assoc, BitVec.and_assoc, BitVec.and_comm (rvAt i).form.mask]
      rw [h4] at h1
      simp at h1
theorem and_low {n : Nat} (x : BitVec n) (k : Nat) (h : k < n) : (x &&& BitVec.ofNat n (2 ^ k - 1)).toNat = x.toNat % 2 ^ k := by
  have h2 : (2 : Nat) ^ k < 2 ^ n := Nat.pow_lt_pow_right (by decide) h
  have h1 := Nat.two_pow_pos k
  rw [BitVec.toNat_and, BitVec.toNat_ofNat, Nat.mod_eq_of_lt (show 2 ^ k - 1 < 2 ^ n by omega), Nat.and_two_pow_sub_one_eq_mod]
theorem or_shl {x : BitVec 32} {a k : Nat} (ha : a < 2 ^ k) (hk : k ≤ 32) (hx : x.toNat * 2 ^ k < 2 ^ 32) : (BitVec.ofNat 32 a ||| x <<< k).toNat = a + x.toNat * 2 ^ k := by
  have e : a < 2 ^ 32 := Nat.lt_of_lt_of_le ha (Nat.pow_le_pow_right (by decide) hk)
  rw [BitVec.toNat_or, BitVec.toNat_shiftLeft, BitVec.toNat_ofNat, Nat.mod_eq_of_lt e, Nat.shiftLeft_eq, Nat.mod_eq_of_lt hx, Nat.or_comm, ← Nat.shiftLeft_eq, ← Nat.shiftLeft_add_eq_or_of_lt ha, Nat.shiftLeft_eq, Nat.add_comm]
def luiW (x : BitVec 20) : BitVec 32 := 823#32 ||| (x.setWidth 32 <<< 12)
def luiX (x : BitVec 20) : BitVec 64 := (x.setWidth 32 <<< 12).signExtend 64
theorem luiW_nat (x : BitVec 20) : (luiW x).toNat = 823 + x.toNat * 4096 := by
  have := x.isLt
  unfold luiW
  rw [show (823#32) = BitVec.ofNat 32 823 from rfl, or_shl (by decide) (by decide) (by rw [BitVec.toNat_setWidth]; omega), BitVec.toNat_setWidth]
  omega
theorem lui_row (x : BitVec 20) : findRow (luiW x) tableD = some 1 := by
  refine findRow_of (by decide) (by decide) (BitVec.eq_of_toNat_eq ?_)
  show (luiW x &&& BitVec.ofNat 32 (2 ^ 7 - 1)).toNat = 55
  rw [and_low _ _ (by decide), luiW_nat]; omega
def bitsAt (w : BitVec 32) (a b : Nat) : Nat := w.toNat / 2 ^ a % 2 ^ b
theorem bitsOf_nat (w : BitVec 32) (a b : Nat) (h : b < 32) : (bitsOf (a, b) w).toNat = bitsAt w a b := by
  unfold bitsOf bitsAt
  have e : (1#32 <<< b) - 1#32 = BitVec.ofNat 32 (2 ^ b - 1) := by
    apply BitVec.eq_of_toNat_eq
    have h2 : (2 : Nat) ^ b < 2 ^ 32 := Nat.pow_lt_pow_right (by decide) h
    have h1 := Nat.two_pow_pos b
    rw [BitVec.toNat_sub, BitVec.toNat_shiftLeft, BitVec.toNat_ofNat, BitVec.toNat_ofNat, Nat.shiftLeft_eq]
    omega
  show (w >>> a &&& ((1#32 <<< b) - 1#32)).toNat = _
  rw [e, and_low _ _ h, BitVec.toNat_ushiftRight, Nat.shiftRight_eq_div_pow]
theorem bv8 {x : BitVec 32} {n : Nat} (h : x.toNat = n) (hn : n < 256) : x.setWidth 8 = BitVec.ofNat 8 n := by
  apply BitVec.eq_of_toNat_eq; rw [BitVec.toNat_setWidth, BitVec.toNat_ofNat, h]
theorem lui_reg (x : BitVec 20) : (bitsOf (7, 5) (luiW x)).setWidth 8 = 6#8 := by
  refine bv8 (n := 6) ?_ (by decide)
  rw [bitsOf_nat _ _ _ (by decide)]; unfold bitsAt; rw [luiW_nat]; omega
theorem lui_imm (x : BitVec 20) : (bitsOf (12, 20) (luiW x)).setWidth 64 = x.setWidth 64 := by
  apply BitVec.eq_of_toNat_eq
  have := x.isLt
  rw [BitVec.toNat_setWidth, BitVec.toNat_setWidth, bitsOf_nat _ _ _ (by decide)]; unfold bitsAt; rw [luiW_nat]; omega
theorem lui_num (x : BitVec 20) : number (formOf .U) (luiW x) = luiX x := by
  show BitVec.sshiftRight (((0#64 <<< 20 ||| (bitsOf (12, 20) (luiW x)).setWidth 64) <<< 12) <<< (64 - 32)) (64 - 32) = _
  rw [lui_imm]
  unfold luiX
  have h1 := x.isLt
  have e0 : (0#64 <<< 20 ||| x.setWidth 64) = x.setWidth 64 := by rw [show (0#64 <<< 20 : BitVec 64) = 0#64 from rfl, BitVec.zero_or]
  rw [e0]
  apply BitVec.eq_of_toInt_eq
  rw [BitVec.toInt_signExtend_of_le (by decide), BitVec.toInt_sshiftRight, Int.shiftRight_eq_div_pow]
  have e1 : (x.setWidth 64 <<< 12 <<< (64 - 32)).toNat = x.toNat * 17592186044416 := by
    rw [BitVec.toNat_shiftLeft, BitVec.toNat_shiftLeft, BitVec.toNat_setWidth, Nat.shiftLeft_eq, Nat.shiftLeft_eq]; omega
  have e2 : (x.setWidth 32 <<< 12).toNat = x.toNat * 4096 := by
    rw [BitVec.toNat_shiftLeft, BitVec.toNat_setWidth, Nat.shiftLeft_eq]; omega
  rw [BitVec.toInt_eq_toNat_cond, BitVec.toInt_eq_toNat_cond, e1, e2]
  split <;> split <;> omega
theorem luiX_int (x : BitVec 20) : (luiX x).toInt = if x.toNat < 524288 then (x.toNat : Int) * 4096 else (x.toNat : Int) * 4096 - 4294967296 := by
  have h1 := x.isLt
  unfold luiX
  rw [BitVec.toInt_signExtend_of_le (by decide)]
  have e2 : (x.setWidth 32 <<< 12).toNat = x.toNat * 4096 := by
    rw [BitVec.toNat_shiftLeft, BitVec.toNat_setWidth, Nat.shiftLeft_eq]; omega
  rw [BitVec.toInt_eq_toNat_cond, e2]
  split <;> split <;> omega
theorem luiX_low (x : BitVec 20) : (luiX x &&& 4095#64) = 0#64 := by
  have h1 := x.isLt
  apply BitVec.eq_of_toNat_eq
  show (luiX x &&& BitVec.ofNat 64 (2 ^ 12 - 1)).toNat = 0
  rw [and_low _ _ (by decide)]
  have h := luiX_int x
  rw [BitVec.toInt_eq_toNat_cond] at h
  split at h <;> split at h <;> omega
theorem lui_fits (x : BitVec 20) : fitsF (formOf .U) (luiX x) = true := by
  have h1 := x.isLt
  have hi := luiX_int x
  show (BitVec.sle (BitVec.ofInt 64 (-2147483648)) (luiX x) && BitVec.slt (luiX x) (BitVec.ofInt 64 2147483648) && ((luiX x &&& 4095#64) == 0#64)) = true
  rw [luiX_low]
  have e1 : (BitVec.ofInt 64 (-2147483648)).toInt = -2147483648 := by decide
  have e2 : (BitVec.ofInt 64 2147483648).toInt = 2147483648 := by decide
  simp only [BitVec.sle, BitVec.slt, e1, e2, Bool.and_eq_true, decide_eq_true_eq]
  refine ⟨⟨?_, ?_⟩, by decide⟩ <;> (rw [hi]; split <;> omega)
theorem lui_spread (x : BitVec 20) : spreadF (formOf .U) (luiX x) = x.setWidth 32 <<< 12 := by
  have h1 := x.isLt
  show (0#32 ||| ((BitVec.sshiftRight (luiX x) 12 &&& (1#64 <<< 20 - 1#64)).signExtend 32 <<< 12)) = _
  rw [BitVec.zero_or]
  congr 1
  apply BitVec.eq_of_toNat_eq
  have e : (BitVec.sshiftRight (luiX x) 12 &&& (1#64 <<< 20 - 1#64)).toNat = x.toNat := by
    show (BitVec.sshiftRight (luiX x) 12 &&& BitVec.ofNat 64 (2 ^ 20 - 1)).toNat = _
    rw [and_low _ _ (by decide)]
    have hs : (BitVec.sshiftRight (luiX x) 12).toInt = (luiX x).toInt / 4096 := by rw [BitVec.toInt_sshiftRight, Int.shiftRight_eq_div_pow]; rfl
    rw [luiX_int, BitVec.toInt_eq_toNat_cond] at hs
    split at hs <;> split at hs <;> omega
  rw [BitVec.signExtend_eq_setWidth_of_le _ (by decide), BitVec.toNat_setWidth, BitVec.toNat_setWidth, e]
theorem decI_of {x : BitVec 32} {i : Nat} (h : findRow x tableD = some i) : decI x = decodeAt i x ∧ decE x = 0 := by
  unfold decI decE; rw [h]; exact ⟨rfl, rfl⟩
theorem decW_of {x : BitVec 32} {a : RvInst} (h : decI x = a) (h0 : decE x = 0) (ho : a.op ≠ 65#8) : decW x = (a, true) := by
  unfold decW; rw [h0, h]
  have : (a.op != 65#8) = true := by simpa using ho
  rw [this]; rfl
def luiI (x : BitVec 20) : RvInst := ⟨1#8, 6#8, 0#8, 0#8, luiX x⟩
theorem lui_enc (x : BitVec 20) : encodeR (luiI x) = (luiW x, 0) := by
  have h1 : encBad (luiI x) = false := rfl
  have h2 : fitsF (formOf (rvAt (luiI x).op.toNat).k) (luiI x).imm = true := lui_fits x
  unfold encodeR
  rw [if_neg (by show ¬ (1 < 1 ∨ 66 ≤ 1); decide), h1, h2]
  show (encW (luiI x), 0) = _
  have e : encW (luiI x) = luiW x := by
    have hc : tog [(rvAt 1).mtch, (6#8).setWidth 32 <<< 7, (0#8).setWidth 32 <<< 15, (0#8).setWidth 32 <<< 20] = 823#32 := by kernel_rfl
    show tog [(rvAt 1).mtch, (6#8).setWidth 32 <<< 7, (0#8).setWidth 32 <<< 15, (0#8).setWidth 32 <<< 20] ||| spreadF (formOf .U) (luiX x) = _
    rw [hc, lui_spread]; rfl
  rw [e]
theorem lui_dec (x : BitVec 20) : decW (luiW x) = (luiI x, true) := by
  obtain ⟨h1, h2⟩ := decI_of (lui_row x)
  refine decW_of (h1.trans ?_) h2 (by show (1#8 : BitVec 8) ≠ 65#8; decide)
  show (⟨1#8, (bitsOf (7, 5) (luiW x)).setWidth 8, 0#8, 0#8, number (formOf .U) (luiW x)⟩ : RvInst) = _
  rw [lui_reg, lui_num]; rfl
def addW (y : BitVec 12) : BitVec 32 := 197403#32 ||| (y.setWidth 32 <<< 20)
def addX (y : BitVec 12) : BitVec 64 := y.signExtend 64
def addI (y : BitVec 12) : RvInst := ⟨41#8, 6#8, 6#8, 0#8, addX y⟩
theorem addW_nat (y : BitVec 12) : (addW y).toNat = 197403 + y.toNat * 1048576 := by
  have := y.isLt
  unfold addW
  rw [show (197403#32) = BitVec.ofNat 32 197403 from rfl, or_shl (by decide) (by decide) (by rw [BitVec.toNat_setWidth]; omega), BitVec.toNat_setWidth]
  omega
theorem shl_and (z : BitVec 32) (k m : Nat) (h : m < 2 ^ k) : (z <<< k) &&& BitVec.ofNat 32 m = 0#32 := by
  apply BitVec.eq_of_getLsbD_eq
  intro i hi
  rw [BitVec.getLsbD_and, BitVec.getLsbD_shiftLeft, BitVec.getLsbD_ofNat]
  by_cases hk : i < k
  · simp [hk]
  · have : m.testBit i = false := Nat.testBit_lt_two_pow (Nat.lt_of_lt_of_le h (Nat.pow_le_pow_right (by decide) (by omega)))
    simp [this]
theorem add_row (y : BitVec 12) : findRow (addW y) tableD = some 41 := by
  refine findRow_of (by decide) (by decide) ?_
  show (197403#32 ||| (y.setWidth 32 <<< 20)) &&& BitVec.ofNat 32 28799 = 27#32
  have : (197403#32 ||| (y.setWidth 32 <<< 20)) &&& BitVec.ofNat 32 28799 = (197403#32 &&& BitVec.ofNat 32 28799) ||| ((y.setWidth 32 <<< 20) &&& BitVec.ofNat 32 28799) := by
    apply BitVec.eq_of_getLsbD_eq
    intro i hi
    simp only [BitVec.getLsbD_and, BitVec.getLsbD_or, Bool.and_or_distrib_right]
  rw [this, shl_and _ _ _ (by decide)]; rfl
theorem add_rd (y : BitVec 12) : (bitsOf (7, 5) (addW y)).setWidth 8 = 6#8 := by
  refine bv8 (n := 6) ?_ (by decide)
  rw [bitsOf_nat _ _ _ (by decide)]; unfold bitsAt; rw [addW_nat]; omega
theorem add_rs (y : BitVec 12) : (bitsOf (15, 5) (addW y)).setWidth 8 = 6#8 := by
  refine bv8 (n := 6) ?_ (by decide)
  rw [bitsOf_nat _ _ _ (by decide)]; unfold bitsAt; rw [addW_nat]; omega
theorem add_imm (y : BitVec 12) : (bitsOf (20, 12) (addW y)).setWidth 64 = y.setWidth 64 := by
  apply BitVec.eq_of_toNat_eq
  have := y.isLt
  rw [BitVec.toNat_setWidth, BitVec.toNat_setWidth, bitsOf_nat _ _ _ (by decide)]; unfold bitsAt; rw [addW_nat]; omega
theorem addX_int (y : BitVec 12) : (addX y).toInt = if y.toNat < 2048 then (y.toNat : Int) else (y.toNat : Int) - 4096 := by
  have h1 := y.isLt
  unfold addX
  rw [BitVec.toInt_signExtend_of_le (by decide), BitVec.toInt_eq_toNat_cond]
  split <;> split <;> omega
theorem add_num (y : BitVec 12) : number (formOf .I) (addW y) = addX y := by
  show BitVec.sshiftRight (((0#64 <<< 12 ||| (bitsOf (20, 12) (addW y)).setWidth 64) <<< 0) <<< (64 - 12)) (64 - 12) = _
  rw [add_imm]
  have h1 := y.isLt
  have e0 : (0#64 <<< 12 ||| y.setWidth 64) = y.setWidth 64 := by rw [show (0#64 <<< 12 : BitVec 64) = 0#64 from rfl, BitVec.zero_or]
  rw [e0]
  apply BitVec.eq_of_toInt_eq
  rw [addX_int, BitVec.toInt_sshiftRight, Int.shiftRight_eq_div_pow]
  have e1 : (y.setWidth 64 <<< 0 <<< (64 - 12)).toNat = y.toNat * 4503599627370496 := by
    rw [BitVec.toNat_shiftLeft, BitVec.toNat_shiftLeft, BitVec.toNat_setWidth, Nat.shiftLeft_eq, Nat.shiftLeft_eq]; omega
  rw [BitVec.toInt_eq_toNat_cond, e1]
  split <;> split <;> omega
theorem add_fits (y : BitVec 12) : fitsF (formOf .I) (addX y) = true := by
  have h1 := y.isLt
  have hi := addX_int y
  show (BitVec.sle (BitVec.ofInt 64 (-2048)) (addX y) && BitVec.slt (addX y) (BitVec.ofInt 64 2048) && ((addX y &&& 0#64) == 0#64)) = true
  have e1 : (BitVec.ofInt 64 (-2048)).toInt = -2048 := by decide
  have e2 : (BitVec.ofInt 64 2048).toInt = 2048 := by decide
  simp only [BitVec.sle, BitVec.slt, e1, e2, Bool.and_eq_true, decide_eq_true_eq, BitVec.and_zero]
  refine ⟨⟨?_, ?_⟩, by decide⟩ <;> (rw [hi]; split <;> omega)
theorem add_spread (y : BitVec 12) : spreadF (formOf .I) (addX y) = y.setWidth 32 <<< 20 := by
  have h1 := y.isLt
  show (0#32 ||| ((BitVec.sshiftRight (addX y) 0 &&& (1#64 <<< 12 - 1#64)).signExtend 32 <<< 20)) = _
  rw [BitVec.zero_or]
  congr 1
  apply BitVec.eq_of_toNat_eq
  have e : (BitVec.sshiftRight (addX y) 0 &&& (1#64 <<< 12 - 1#64)).toNat = y.toNat := by
    show (BitVec.sshiftRight (addX y) 0 &&& BitVec.ofNat 64 (2 ^ 12 - 1)).toNat = _
    rw [and_low _ _ (by decide)]
    have hs : (BitVec.sshiftRight (addX y) 0).toInt = (addX y).toInt := by rw [BitVec.toInt_sshiftRight, Int.shiftRight_eq_div_pow]; simp
    rw [addX_int, BitVec.toInt_eq_toNat_cond] at hs
    split at hs <;> split at hs <;> omega
  rw [BitVec.signExtend_eq_setWidth_of_le _ (by decide), BitVec.toNat_setWidth, BitVec.toNat_setWidth, e]
theorem add_enc (y : BitVec 12) : encodeR (addI y) = (addW y, 0) := by
  have h1 : encBad (addI y) = false := rfl
  have h2 : fitsF (formOf (rvAt (addI y).op.toNat).k) (addI y).imm = true := add_fits y
  unfold encodeR
  rw [if_neg (by show ¬ (41 < 1 ∨ 66 ≤ 41); decide), h1, h2]
  show (encW (addI y), 0) = _
  have e : encW (addI y) = addW y := by
    have hc : tog [(rvAt 41).mtch, (6#8).setWidth 32 <<< 7, (6#8).setWidth 32 <<< 15, (0#8).setWidth 32 <<< 20] = 197403#32 := by kernel_rfl
    show tog [(rvAt 41).mtch, (6#8).setWidth 32 <<< 7, (6#8).setWidth 32 <<< 15, (0#8).setWidth 32 <<< 20] ||| spreadF (formOf .I) (addX y) = _
    rw [hc, add_spread]; rfl
  rw [e]
theorem add_dec (y : BitVec 12) : decW (addW y) = (addI y, true) := by
  obtain ⟨h1, h2⟩ := decI_of (add_row y)
  refine decW_of (h1.trans ?_) h2 (by show (41#8 : BitVec 8) ≠ 65#8; decide)
  show (⟨41#8, (bitsOf (7, 5) (addW y)).setWidth 8, (bitsOf (15, 5) (addW y)).setWidth 8, 0#8, number (formOf .I) (addW y)⟩ : RvInst) = _
  rw [add_rd, add_rs, add_num]; rfl
def keepX (k : Nat) : BitVec 64 := if k < 64 then BitVec.ofNat 64 k else BitVec.ofInt 64 ((k : Int) - 128)
def keepB (k : Nat) : BitVec 8 := if k < 64 then 5#8 else 2#8
def stI (s k : Nat) : RvInst := ⟨BitVec.ofNat 8 (18 + s), 0#8, keepB k, 6#8, keepX k⟩
theorem st_all : ((List.range 4).all fun s => (List.range 128).all fun k => decide ((encodeR (stI s k)).2 = 0) && decide (decW (encodeR (stI s k)).1 = (stI s k, true))) = true := by kernel_rfl
theorem st_enc {s k : Nat} (hs : s < 4) (hk : k < 128) : (encodeR (stI s k)).2 = 0 ∧ decW (encodeR (stI s k)).1 = (stI s k, true) := by
  have h := List.all_eq_true.1 (List.all_eq_true.1 st_all s (List.mem_range.2 hs)) k (List.mem_range.2 hk)
  rw [Bool.and_eq_true] at h
  exact ⟨of_decide_eq_true h.1, of_decide_eq_true h.2⟩
end Go.Proofs.S
end
section
namespace Go.Proofs.S
open Go Go.Ux Go.Ux.Mach Go.Proofs Go.Proofs.M Go.Ux.Image
open Go.Proofs.N (doM loadsM)
set_option linter.unusedVariables false
def hi20 (n : BitVec 32) : BitVec 20 := ((n + 2048#32) >>> 12).setWidth 20
def lo12 (n : BitVec 32) : BitVec 12 := n.setWidth 12
theorem signW_nat (v : BitVec 64) : (signW v 32).toInt = if v.toNat % 4294967296 < 2147483648 then ((v.toNat % 4294967296 : Nat) : Int) else ((v.toNat % 4294967296 : Nat) : Int) - 4294967296 := by
  unfold signW
  rw [BitVec.toInt_sshiftRight, Int.shiftRight_eq_div_pow, BitVec.toInt_eq_toNat_cond, BitVec.toNat_shiftLeft, Nat.shiftLeft_eq]
  have := v.isLt
  split <;> split <;> omega
theorem hi20_nat (n : BitVec 32) : (hi20 n).toNat = (n.toNat + 2048) % 4294967296 / 4096 := by
  unfold hi20
  rw [BitVec.toNat_setWidth, BitVec.toNat_ushiftRight, Nat.shiftRight_eq_div_pow, BitVec.toNat_add]
  show (n.toNat + 2048) % 2 ^ 32 / 2 ^ 12 % 2 ^ 20 = _
  omega
theorem lo12_nat (n : BitVec 32) : (lo12 n).toNat = n.toNat % 4096 := by
  unfold lo12; rw [BitVec.toNat_setWidth]
theorem nat_of_int {x : BitVec 64} {z : Int} (h : x.toInt = z) : (x.toNat : Int) = if z < 0 then z + 18446744073709551616 else z := by
  have := x.isLt
  rw [BitVec.toInt_eq_toNat_cond] at h
  split at h <;> split <;> omega
theorem keep_num (n : BitVec 32) : signedF (fun x y => x + y) (luiX (hi20 n)) (addX (lo12 n)) = n.signExtend 64 := by
  have hn := n.isLt
  have h1 := nat_of_int (luiX_int (hi20 n))
  have h2 := nat_of_int (addX_int (lo12 n))
  rw [hi20_nat] at h1
  rw [lo12_nat] at h2
  have s1 := signW_nat (luiX (hi20 n))
  have s2 := signW_nat (addX (lo12 n))
  have t1 := nat_of_int s1
  have t2 := nat_of_int s2
  unfold signedF
  apply BitVec.eq_of_toInt_eq
  rw [signW_nat, BitVec.toInt_signExtend_of_le (by decide), BitVec.toInt_eq_toNat_cond]
  have hs : (signW (luiX (hi20 n)) 32 + signW (addX (lo12 n)) 32).toNat % 4294967296 = n.toNat := by
    rw [BitVec.toNat_add]
    generalize (signW (luiX (hi20 n)) 32).toNat = a at *
    generalize (signW (addX (lo12 n)) 32).toNat = b at *
    generalize (luiX (hi20 n)).toNat = c at *
    generalize (addX (lo12 n)).toNat = d at *
    generalize n.toNat = m at *
    clear s1 s2
    have e1 : (a : Int) % 4294967296 = (m + 2048) % 4294967296 / 4096 * 4096 := by
      split at h1 <;> split at h1 <;> split at t1 <;> split at t1 <;> omega
    have e2 : (b : Int) % 4294967296 = (if m % 4096 < 2048 then ((m % 4096 : Nat) : Int) else ((m % 4096 : Nat) : Int) + 4294963200) := by
      split at h2 <;> split at h2 <;> split at t2 <;> split at t2 <;> split <;> omega
    split at e2 <;> omega
  rw [hs]
  split <;> split <;> omega
abbrev KR := BitVec 8 × BitVec 8 × BitVec 32
def KR.s (r : KR) : Nat := (r.2.1 % 4#8).toNat
def KR.k (r : KR) : Nat := (r.1 % 128#8).toNat / 2 ^ r.s * 2 ^ r.s
def KR.v (r : KR) : BitVec 64 := r.2.2.signExtend 64
theorem KR.s_lt (r : KR) : r.s < 4 := by unfold KR.s; rw [BitVec.toNat_umod]; exact Nat.mod_lt _ (by decide)
theorem KR.size (r : KR) : 2 ^ r.s = 1 ∨ 2 ^ r.s = 2 ∨ 2 ^ r.s = 4 ∨ 2 ^ r.s = 8 := by
  have := r.s_lt
  have : r.s = 0 ∨ r.s = 1 ∨ r.s = 2 ∨ r.s = 3 := by omega
  rcases this with h | h | h | h <;> (rw [h]; decide)
theorem KR.at (r : KR) : r.k % 2 ^ r.s = 0 ∧ r.k + 2 ^ r.s ≤ 128 ∧ (r.k < 64 → r.k + 2 ^ r.s ≤ 64) := by
  have h : (r.1 % 128#8).toNat < 128 := by rw [BitVec.toNat_umod]; exact Nat.mod_lt _ (by decide)
  unfold KR.k
  generalize (r.1 % 128#8).toNat = a at h
  rcases r.size with e | e | e | e <;> (rw [e]; omega)
def keepI (r : KR) : List RvInst := [luiI (hi20 r.2.2), addI (lo12 r.2.2), stI r.s r.k]
def keepTail : List RvInst := [⟨22#8, 0#8, 5#8, 0#8, 7#64⟩, ⟨22#8, 17#8, 0#8, 0#8, 3#64⟩, ⟨64#8, 0#8, 0#8, 0#8, 0#64⟩]
def keepHead : List RvInst := [⟨1#8, 5#8, 0#8, 0#8, 4194304#64⟩]
def keepL (rs : List KR) : List RvInst := keepHead ++ rs.flatMap keepI ++ keepTail
theorem keepFlat_length (rs : List KR) : (rs.flatMap keepI).length = 3 * rs.length := by
  induction rs with
  | nil => rfl
  | cons r l ih => rw [List.flatMap_cons, List.length_append, ih, List.length_cons]; show 3 + _ = _; omega
theorem keepL_length (rs : List KR) : (keepL rs).length = 3 * rs.length + 4 := by
  unfold keepL; rw [List.length_append, List.length_append, keepFlat_length]; show 1 + _ + 3 = _; omega
def Words (l : List RvInst) : Prop := ∀ a ∈ l, (encodeR a).2 = 0 ∧ decW (encodeR a).1 = (a, true)
theorem Words.code {l : List RvInst} (h : Words l) : (codeW l).length = l.length ∧ (codeW l).map decW = l.map fun a => (a, true) := by
  induction l with
  | nil => exact ⟨rfl, rfl⟩
  | cons a r ih =>
    obtain ⟨h1, h2⟩ := h a (List.mem_cons_self ..)
    obtain ⟨h3, h4⟩ := ih fun b hb => h b (List.mem_cons_of_mem _ hb)
    have e : codeW (a :: r) = (encodeR a).1 :: codeW r := by
      unfold codeW; rw [List.filterMap_cons]; simp only [h1, if_true]
    rw [e]
    refine ⟨by rw [List.length_cons, List.length_cons, h3], ?_⟩
    rw [List.map_cons, List.map_cons, h2, h4]
theorem keep_words (rs : List KR) : Words (keepL rs) := by
  intro a ha
  unfold keepL at ha
  rw [List.mem_append, List.mem_append] at ha
  rcases ha with (ha | ha) | ha
  · simp only [keepHead, List.mem_singleton] at ha
    subst ha; exact ⟨by kernel_rfl, by kernel_rfl⟩
  · rw [List.mem_flatMap] at ha
    obtain ⟨r, _, ha⟩ := ha
    simp only [keepI, List.mem_cons, List.not_mem_nil, or_false] at ha
    rcases ha with rfl | rfl | rfl
    · rw [lui_enc]; exact ⟨rfl, lui_dec _⟩
    · rw [add_enc]; exact ⟨rfl, add_dec _⟩
    · exact st_enc r.s_lt (by have := r.at; have := r.size; omega)
  · simp only [keepTail, List.mem_cons, List.not_mem_nil, or_false] at ha
    rcases ha with rfl | rfl | rfl
    · exact ⟨by kernel_rfl, by kernel_rfl⟩
    · exact ⟨by kernel_rfl, by kernel_rfl⟩
    · exact ⟨by kernel_rfl, by kernel_rfl⟩
def keepImg (rs : List KR) : Img := ⟨64, [([115, 116, 97, 114, 116], 0)], codeW (keepL rs)⟩
theorem keep_right (rs : List KR) (h : rs.length ≤ 40) : rightB (keepImg rs) = true := by
  have hl : (codeW (keepL rs)).length = 3 * rs.length + 4 := (keep_words rs).code.1.trans (keepL_length rs)
  have h3 : right3 (keepImg rs) = true := by
    show (decide (1 ≤ (codeW (keepL rs)).length) && decide ((codeW (keepL rs)).length ≤ 262144)) = true
    rw [hl, Bool.and_eq_true]; exact ⟨decide_eq_true (by omega), decide_eq_true (by omega)⟩
  have h5 : right5 (keepImg rs) = true := by
    show symsOk (codeW (keepL rs)).length [] (-1) [([115, 116, 97, 114, 116], 0)] = true
    rw [hl]
    have : ∀ m : Nat, symsOk (m + 1) [] (-1) [([115, 116, 97, 114, 116], 0)] = true := fun m => by
      simp [symsOk, symOk]; omega
    exact this (3 * rs.length + 3)
  unfold rightB
  rw [h3, h5]; rfl
def keepMem (rs : List KR) : Nat → BitVec 8 := rs.foldl (fun m r => storeB m r.k r.v (2 ^ r.s)) (fun _ => 0#8)
theorem storeB_at (f : Nat → BitVec 8) (o : Nat) (v : BitVec 64) (j : Nat) : ∀ n, storeB f o v n j = if o ≤ j ∧ j < o + n then (v >>> (8 * (j - o))).setWidth 8 else f j
  | 0 => by show f j = _; rw [if_neg (by omega)]
  | n + 1 => by
    show updB (storeB f o v n) (o + n) ((v >>> (8 * n)).setWidth 8) j = _
    unfold updB
    by_cases e : j = o + n
    · rw [if_pos e, if_pos (by omega), e, Nat.add_sub_cancel_left]
    · rw [if_neg e, storeB_at f o v j n]
      by_cases h : o ≤ j ∧ j < o + n
      · rw [if_pos h, if_pos (by omega)]
      · rw [if_neg h, if_neg (by omega)]
def MemIs (mem : Nat → BitVec 8) (M : MS) : Prop := ∀ k, k < 128 → mem k = if k < 64 then M.d k else M.s (65408 + k)
structure KI (L : List RvInst) (mem : Nat → BitVec 8) (i : Nat) (M : MS) : Prop where
  code : M.code = L.map fun a => (a, true)
  pc : M.pc = 65536#64 + BitVec.ofNat 64 (4 * i)
  n : M.n = 64
  x0 : M.x 0 = 0#64
  x2 : M.x 2 = 8388608#64
  x5 : M.x 5 = 4194304#64
  fin : M.fin = none
  mem : MemIs mem M
theorem nextM_at {M : MS} {i : Nat} {a : RvInst} (hpc : M.pc = 65536#64 + BitVec.ofNat 64 (4 * i)) (hl : M.code.length ≤ 1000000) (h : M.code[i]? = some (a, true)) : nextM M = some a := by
  have hi : i < M.code.length := (List.getElem?_eq_some_iff.1 h).1
  have e : M.pc - 65536#64 = BitVec.ofNat 64 (4 * i) := by rw [hpc, BitVec.add_comm, BitVec.add_sub_cancel]
  have e1 : M.pc.toNat = 65536 + 4 * i := by rw [hpc, BitVec.toNat_add, BitVec.toNat_ofNat, BitVec.toNat_ofNat]; omega
  have e2 : (BitVec.ofNat 64 (4 * i)).toNat = 4 * i := by rw [BitVec.toNat_ofNat]; omega
  have e3 : (BitVec.ofNat 64 (4 * i) / 4#64).toNat = i := by rw [BitVec.toNat_udiv, e2]; show 4 * i / 4 = i; omega
  unfold nextM
  rw [if_neg, if_neg, if_neg]
  · have : nextI M = i := by unfold nextI; rw [e, e3]
    rw [this, h]
  · rw [e]
    simp only [BitVec.ule, e3, BitVec.toNat_ofNat, decide_eq_true_eq]
    omega
  · rw [e]
    have : BitVec.ofNat 64 (4 * i) % 4#64 = 0#64 := by
      apply BitVec.eq_of_toNat_eq; rw [BitVec.toNat_umod, e2]; show 4 * i % 4 = 0; omega
    rw [this]; decide
  · simp only [BitVec.ult, e1, decide_eq_true_eq]
    show ¬ (65536 + 4 * i < 65536); omega
theorem KI.next {L : List RvInst} {mem : Nat → BitVec 8} {i : Nat} {M : MS} (h : KI L mem i M) (hl : L.length ≤ 1000000) {a : RvInst} (ha : L[i]? = some a) : nextM M = some a := by
  refine nextM_at h.pc (by rw [h.code, List.length_map]; exact hl) ?_
  rw [h.code, List.getElem?_map, ha]; rfl
theorem pc_step (i : Nat) : (65536#64 + BitVec.ofNat 64 (4 * i)) + 4#64 = 65536#64 + BitVec.ofNat 64 (4 * (i + 1)) := by
  apply BitVec.eq_of_toNat_eq
  simp only [BitVec.toNat_add, BitVec.toNat_ofNat]; omega
theorem does_plain {M : MS} {a : RvInst} (h0 : (loadsM a.op.toNat).1 = 0) (hs : ¬ (18 ≤ a.op.toNat ∧ a.op.toNat ≤ 21)) (he : a.op.toNat ≠ 64) : doesM M a = (putM M a (doM a.op.toNat a.imm M.pc (M.x a.rs1.toNat) (M.x a.rs2.toNat)).1 (doM a.op.toNat a.imm M.pc (M.x a.rs1.toNat) (M.x a.rs2.toNat)).2, none) := by
  unfold doesM; dsimp only; rw [if_neg (by rw [h0]; decide), if_neg hs, if_neg he]
theorem writes_of {a : RvInst} (h : (encodeR a).2 = 0) : writesF a = ((formOf (rvAt a.op.toNat).k).rd && !(a.rd == 0#8)) := by
  unfold writesF; rw [h]; rfl
theorem writes_zero {a : RvInst} (h : a.rd = 0#8) : writesF a = false := by
  unfold writesF; rw [h]; simp
theorem KI.put {L : List RvInst} {mem : Nat → BitVec 8} {i : Nat} {M : MS} (h : KI L mem i M) (hl : L.length ≤ 1000000) {a : RvInst} (ha : L[i]? = some a) (h0 : (loadsM a.op.toNat).1 = 0) (hs : ¬ (18 ≤ a.op.toNat ∧ a.op.toNat ≤ 21)) (he : a.op.toNat ≠ 64) (hf : (a.op != 63#8) = true)
    (hx : ∀ pc x y, (doM a.op.toNat a.imm pc x y).2 = pc + 4#64) (hw : writesF a = true) (hr : a.rd.toNat ≠ 0 ∧ a.rd.toNat ≠ 2 ∧ a.rd.toNat ≠ 5) :
    KI L mem (i + 1) (stepM M) ∧ (stepM M).x = updR M.x a.rd.toNat (doM a.op.toNat a.imm M.pc (M.x a.rs1.toNat) (M.x a.rs2.toNat)).1 ∧ (stepM M).events = M.events := by
  have e : stepM M = { M with steps := M.steps + 1#64, x := updR M.x a.rd.toNat (doM a.op.toNat a.imm M.pc (M.x a.rs1.toNat) (M.x a.rs2.toNat)).1, pc := M.pc + 4#64, fin := none } := by
    unfold stepM; rw [h.next hl ha]; dsimp only
    rw [does_plain h0 hs he]
    unfold putM; dsimp only
    rw [hw, hf, hx]; rfl
  rw [e]
  refine ⟨⟨h.code, ?_, h.n, ?_, ?_, ?_, rfl, h.mem⟩, rfl, rfl⟩
  · show M.pc + 4#64 = _; rw [h.pc, pc_step]
  · show updR _ _ _ 0 = _; unfold updR; rw [if_neg (by omega)]; exact h.x0
  · show updR _ _ _ 2 = _; unfold updR; rw [if_neg (by omega)]; exact h.x2
  · show updR _ _ _ 5 = _; unfold updR; rw [if_neg (by omega)]; exact h.x5
theorem KI.lui {L : List RvInst} {mem : Nat → BitVec 8} {i : Nat} {M : MS} (h : KI L mem i M) (hl : L.length ≤ 1000000) {x : BitVec 20} (ha : L[i]? = some (luiI x)) : KI L mem (i + 1) (stepM M) ∧ (stepM M).x 6 = luiX x ∧ (stepM M).events = M.events := by
  have hw : writesF (luiI x) = true := by rw [writes_of (by rw [lui_enc])]; rfl
  obtain ⟨h1, h2, h3⟩ := h.put hl ha rfl (by show ¬ (18 ≤ 1 ∧ 1 ≤ 21); omega) (by show (1 : Nat) ≠ 64; decide) rfl (fun _ _ _ => rfl) hw ⟨by show (6 : Nat) ≠ 0; decide, by show (6 : Nat) ≠ 2; decide, by show (6 : Nat) ≠ 5; decide⟩
  exact ⟨h1, by rw [h2]; rfl, h3⟩
theorem KI.addi {L : List RvInst} {mem : Nat → BitVec 8} {i : Nat} {M : MS} (h : KI L mem i M) (hl : L.length ≤ 1000000) {y : BitVec 12} (ha : L[i]? = some (addI y)) : KI L mem (i + 1) (stepM M) ∧ (stepM M).x 6 = signedF (fun x y => x + y) (M.x 6) (addX y) ∧ (stepM M).events = M.events := by
  have hw : writesF (addI y) = true := by rw [writes_of (by rw [add_enc])]; rfl
  obtain ⟨h1, h2, h3⟩ := h.put hl ha rfl (by show ¬ (18 ≤ 41 ∧ 41 ≤ 21); omega) (by show (41 : Nat) ≠ 64; decide) rfl (fun _ _ _ => rfl) hw ⟨by show (6 : Nat) ≠ 0; decide, by show (6 : Nat) ≠ 2; decide, by show (6 : Nat) ≠ 5; decide⟩
  exact ⟨h1, by rw [h2]; rfl, h3⟩
theorem st_where {s k : Nat} (hs : 2 ^ s = 1 ∨ 2 ^ s = 2 ∨ 2 ^ s = 4 ∨ 2 ^ s = 8) (hk : k % 2 ^ s = 0 ∧ k + 2 ^ s ≤ 128 ∧ (k < 64 → k + 2 ^ s ≤ 64)) : whereM 64 ((if k < 64 then 4194304#64 else 8388608#64) + keepX k) (2 ^ s) = some (decide (k < 64), if k < 64 then k else 65408 + k) := by
  unfold keepX
  generalize hz : 2 ^ s = z at *
  by_cases h : k < 64
  · rw [if_pos h, if_pos h, if_pos h]
    have e : (4194304#64 + BitVec.ofNat 64 k).toNat = 4194304 + k := by rw [BitVec.toNat_add, BitVec.toNat_ofNat, BitVec.toNat_ofNat]; omega
    unfold whereM
    rw [e, if_neg (by rcases hs with e | e | e | e <;> (subst e; omega)), if_pos (by have := hk.2.2 h; omega)]
    rw [decide_eq_true h, show 4194304 + k - 4194304 = k by omega]
  · rw [if_neg h, if_neg h, if_neg h]
    have e : (8388608#64 + BitVec.ofInt 64 ((k : Int) - 128)).toNat = 8388608 + k - 128 := by
      rw [BitVec.toNat_add, BitVec.toNat_ofInt, BitVec.toNat_ofNat]; omega
    unfold whereM
    rw [e, if_neg (by rcases hs with e | e | e | e <;> (subst e; omega)), if_neg (by omega), if_pos (by omega)]
    rw [decide_eq_false h, show 8388608 + k - 128 - 8323072 = 65408 + k by omega]
theorem does_store {M : MS} {a : RvInst} {k : Bool} {o : Nat} (h0 : ¬ 0 < (loadsM a.op.toNat).1) (hs : 18 ≤ a.op.toNat ∧ a.op.toNat ≤ 21) (hw : whereM M.n (M.x a.rs1.toNat + a.imm) (2 ^ (a.op.toNat - 18)) = some (k, o)) :
    doesM M a = (putM (storeM M k o (2 ^ (a.op.toNat - 18)) (M.x a.rs2.toNat)) a (doM a.op.toNat a.imm M.pc (M.x a.rs1.toNat) (M.x a.rs2.toNat)).1 (doM a.op.toNat a.imm M.pc (M.x a.rs1.toNat) (M.x a.rs2.toNat)).2, none) := by
  unfold doesM; dsimp only; rw [if_neg h0, if_pos hs, hw]
theorem KI.store {L : List RvInst} {mem : Nat → BitVec 8} {i : Nat} {M : MS} (h : KI L mem i M) (hl : L.length ≤ 1000000) {s k : Nat} (hs4 : s < 4) (hs : 2 ^ s = 1 ∨ 2 ^ s = 2 ∨ 2 ^ s = 4 ∨ 2 ^ s = 8) (hk : k % 2 ^ s = 0 ∧ k + 2 ^ s ≤ 128 ∧ (k < 64 → k + 2 ^ s ≤ 64)) (ha : L[i]? = some (stI s k)) :
    KI L (storeB mem k (M.x 6) (2 ^ s)) (i + 1) (stepM M) ∧ (stepM M).events = M.events := by
  have ho : (stI s k).op.toNat = 18 + s := by show (BitVec.ofNat 8 (18 + s)).toNat = _; rw [BitVec.toNat_ofNat]; omega
  have hx : ∀ imm pc x y, (doM (18 + s) imm pc x y).2 = pc + 4#64 := by
    have : s = 0 ∨ s = 1 ∨ s = 2 ∨ s = 3 := by omega
    rcases this with rfl | rfl | rfl | rfl <;> (intros; rfl)
  have hz : (loadsM (18 + s)).1 = 0 := by
    have : s = 0 ∨ s = 1 ∨ s = 2 ∨ s = 3 := by omega
    rcases this with rfl | rfl | rfl | rfl <;> rfl
  have hb : M.x (stI s k).rs1.toNat = if k < 64 then 4194304#64 else 8388608#64 := by
    show M.x (keepB k).toNat = _
    unfold keepB
    by_cases h64 : k < 64
    · rw [if_pos h64, if_pos h64]; exact h.x5
    · rw [if_neg h64, if_neg h64]; exact h.x2
  have hW : whereM M.n (M.x (stI s k).rs1.toNat + (stI s k).imm) (2 ^ ((stI s k).op.toNat - 18)) = some (decide (k < 64), if k < 64 then k else 65408 + k) := by
    rw [ho, h.n, hb, show 18 + s - 18 = s by omega]; exact st_where hs hk
  have hd := does_store (M := { M with steps := M.steps + 1#64 }) (a := stI s k) (by rw [ho, hz]; omega) (by rw [ho]; omega) hW
  have hwz : writesF (stI s k) = false := writes_zero rfl
  have e : stepM M = { storeM { M with steps := M.steps + 1#64 } (decide (k < 64)) (if k < 64 then k else 65408 + k) (2 ^ s) (M.x 6) with pc := M.pc + 4#64, fin := none } := by
    unfold stepM; rw [h.next hl ha]; dsimp only
    rw [hd]
    unfold putM; dsimp only
    rw [hwz, ho, hx, show 18 + s - 18 = s by omega]
    cases decide (k < 64) <;> rfl
  rw [e]
  have hm : MemIs (storeB mem k (M.x 6) (2 ^ s)) (storeM { M with steps := M.steps + 1#64 } (decide (k < 64)) (if k < 64 then k else 65408 + k) (2 ^ s) (M.x 6)) := by
    intro j hj
    have hmj := h.mem j hj
    rw [storeB_at, hmj]
    by_cases h64 : k < 64
    · rw [decide_eq_true h64, if_pos h64]
      show _ = if j < 64 then storeB M.d k (M.x 6) (2 ^ s) j else M.s (65408 + j)
      rw [storeB_at]
      have := hk.2.2 h64
      by_cases hj64 : j < 64
      · rw [if_pos hj64, if_pos hj64]
      · rw [if_neg hj64, if_neg hj64, if_neg (by omega)]
    · rw [decide_eq_false h64, if_neg h64]
      show _ = if j < 64 then M.d j else storeB M.s (65408 + k) (M.x 6) (2 ^ s) (65408 + j)
      rw [storeB_at]
      by_cases hj64 : j < 64
      · rw [if_pos hj64, if_pos hj64, if_neg (by omega)]
      · rw [if_neg hj64, if_neg hj64]
        by_cases hin : k ≤ j ∧ j < k + 2 ^ s
        · rw [if_pos hin, if_pos (by omega), show 65408 + j - (65408 + k) = j - k by omega]
        · rw [if_neg hin, if_neg (by omega)]
  refine ⟨⟨?_, ?_, ?_, ?_, ?_, ?_, rfl, hm⟩, ?_⟩
  · cases decide (k < 64) <;> exact h.code
  · show M.pc + 4#64 = _; rw [h.pc, pc_step]
  · cases decide (k < 64) <;> exact h.n
  · cases decide (k < 64) <;> exact h.x0
  · cases decide (k < 64) <;> exact h.x2
  · cases decide (k < 64) <;> exact h.x5
  · cases decide (k < 64) <;> rfl
theorem KI.round {L : List RvInst} {mem : Nat → BitVec 8} {i : Nat} {M : MS} (h : KI L mem i M) (hl : L.length ≤ 1000000) (r : KR) (h0 : L[i]? = some (luiI (hi20 r.2.2))) (h1 : L[i + 1]? = some (addI (lo12 r.2.2))) (h2 : L[i + 1 + 1]? = some (stI r.s r.k)) :
    KI L (storeB mem r.k r.v (2 ^ r.s)) (i + 3) (stepM (stepM (stepM M))) ∧ (stepM (stepM (stepM M))).events = M.events ∧ (stepM M).fin = none ∧ (stepM (stepM M)).fin = none := by
  obtain ⟨k1, x1, e1⟩ := h.lui hl h0
  obtain ⟨k2, x2, e2⟩ := k1.addi hl h1
  obtain ⟨k3, e3⟩ := k2.store hl r.s_lt r.size r.at h2
  rw [x2, x1, keep_num] at k3
  exact ⟨k3, e3.trans (e2.trans e1), k1.fin, k2.fin⟩
theorem keepL_split (pre rest : List KR) (r : KR) : keepL (pre ++ r :: rest) = (keepHead ++ pre.flatMap keepI) ++ (keepI r ++ (rest.flatMap keepI ++ keepTail)) := by
  unfold keepL
  rw [List.flatMap_append, List.flatMap_cons]
  simp only [List.append_assoc]
theorem keepPre_length (pre : List KR) : (keepHead ++ pre.flatMap keepI).length = 1 + 3 * pre.length := by rw [List.length_append, keepFlat_length]; rfl
theorem keepL_at (pre rest : List KR) (r : KR) (j : Nat) (hj : j < 3) : (keepL (pre ++ r :: rest))[1 + 3 * pre.length + j]? = (keepI r)[j]? := by
  rw [keepL_split, List.getElem?_append_right (by rw [keepPre_length]; omega), keepPre_length, List.getElem?_append_left (by show _ < 3; omega)]
  congr 1; omega
theorem keepL_tail (rs : List KR) (j : Nat) : (keepL rs)[1 + 3 * rs.length + j]? = keepTail[j]? := by
  unfold keepL
  rw [List.getElem?_append_right (by rw [keepPre_length]; omega), keepPre_length]
  congr 1; omega
theorem keepMem_snoc (pre : List KR) (r : KR) : keepMem (pre ++ [r]) = storeB (keepMem pre) r.k r.v (2 ^ r.s) := by
  unfold keepMem; rw [List.foldl_append]; rfl
theorem keep_rounds (rs : List KR) (hl : (keepL rs).length ≤ 1000000) : ∀ (rest pre : List KR) (M : MS), rs = pre ++ rest → KI (keepL rs) (keepMem pre) (1 + 3 * pre.length) M → M.events = [] → ∃ M', runN (3 * rest.length) M = (3 * rest.length, M') ∧ KI (keepL rs) (keepMem rs) (1 + 3 * rs.length) M' ∧ M'.events = []
  | [], pre, M, e, h, he => by
    rw [List.append_nil] at e; subst e
    exact ⟨M, rfl, h, he⟩
  | r :: rest, pre, M, e, h, he => by
    have g : ∀ j, j < 3 → (keepL rs)[1 + 3 * pre.length + j]? = (keepI r)[j]? := fun j hj => by rw [e]; exact keepL_at pre rest r j hj
    obtain ⟨k3, e3, f1, f2⟩ := h.round hl r (g 0 (by decide)) (g 1 (by decide)) (g 2 (by decide))
    rw [← keepMem_snoc] at k3
    obtain ⟨M', h1, h2, h3⟩ := keep_rounds rs hl rest (pre ++ [r]) _ (by rw [e]; simp) (by
      rw [List.length_append, show 1 + 3 * (pre.length + [r].length) = 1 + 3 * pre.length + 3 from by show 1 + 3 * (pre.length + 1) = _; omega]; exact k3) (e3.trans he)
    refine ⟨M', ?_, h2, h3⟩
    rw [List.length_cons, show 3 * (rest.length + 1) = 3 * rest.length + 1 + 1 + 1 by omega, runN_go h.fin, runN_go f1, runN_go f2, h1]
theorem keep_first (rs : List KR) (hl : (keepL rs).length ≤ 1000000) : KI (keepL rs) (keepMem []) 1 (stepM (newM (keepImg rs) [])) ∧ (stepM (newM (keepImg rs) [])).events = [] := by
  have hcode : (newM (keepImg rs) []).code = (keepL rs).map fun a => (a, true) := (keep_words rs).code.2
  have hn : nextM (newM (keepImg rs) []) = some ⟨1#8, 5#8, 0#8, 0#8, 4194304#64⟩ := by
    refine nextM_at (i := 0) rfl (by rw [hcode, List.length_map]; exact hl) ?_
    rw [hcode]; rfl
  have hw : writesF ⟨1#8, 5#8, 0#8, 0#8, 4194304#64⟩ = true := by kernel_rfl
  have e : stepM (newM (keepImg rs) []) = { newM (keepImg rs) [] with steps := 1#64, x := updR (newM (keepImg rs) []).x 5 4194304#64, pc := 65540#64, fin := none } := by
    unfold stepM; rw [hn]; dsimp only
    rw [does_plain (a := ⟨1#8, 5#8, 0#8, 0#8, 4194304#64⟩) rfl (by show ¬ (18 ≤ 1 ∧ 1 ≤ 21); omega) (by show (1 : Nat) ≠ 64; decide)]
    unfold putM; dsimp only
    rw [hw]; rfl
  rw [e]
  refine ⟨⟨hcode, rfl, rfl, rfl, rfl, rfl, rfl, fun k hk => ?_⟩, rfl⟩
  show (0#8 : BitVec 8) = if k < 64 then 0#8 else 0#8
  split <;> rfl
theorem keep_last (rs : List KR) (hl : (keepL rs).length ≤ 1000000) (M : MS) (mem : Nat → BitVec 8) (h : KI (keepL rs) mem (1 + 3 * rs.length) M) : ∃ M', runN 3 M = (3, M') ∧ M'.fin = some false ∧ M'.x 0 = 0#64 ∧ M'.n = 64 ∧ MemIs mem M' ∧ M'.events.length = M.events.length + 1 := by
  have hn := h.next hl (a := ⟨22#8, 0#8, 5#8, 0#8, 7#64⟩) (keepL_tail rs 0)
  have hw : writesF ⟨22#8, 0#8, 5#8, 0#8, 7#64⟩ = false := writes_zero rfl
  have e : stepM M = { M with steps := M.steps + 1#64, pc := M.pc + 4#64, fin := none } := by
    unfold stepM; rw [hn]; dsimp only
    rw [does_plain (a := ⟨22#8, 0#8, 5#8, 0#8, 7#64⟩) rfl (by show ¬ (18 ≤ 22 ∧ 22 ≤ 21); omega) (by show (22 : Nat) ≠ 64; decide)]
    unfold putM; dsimp only
    rw [hw]; rfl
  have k1 : KI (keepL rs) mem (1 + 3 * rs.length + 1) (stepM M) := by
    rw [e]
    refine ⟨h.code, ?_, h.n, h.x0, h.x2, h.x5, rfl, h.mem⟩
    show M.pc + 4#64 = _; rw [h.pc, pc_step]
  have hw2 : writesF ⟨22#8, 17#8, 0#8, 0#8, 3#64⟩ = true := by kernel_rfl
  obtain ⟨k2, x2, ev2⟩ := k1.put hl (a := ⟨22#8, 17#8, 0#8, 0#8, 3#64⟩) (keepL_tail rs 1) rfl (by show ¬ (18 ≤ 22 ∧ 22 ≤ 21); omega) (by show (22 : Nat) ≠ 64; decide) rfl (fun _ _ _ => rfl) hw2 ⟨by show (17 : Nat) ≠ 0; decide, by show (17 : Nat) ≠ 2; decide, by show (17 : Nat) ≠ 5; decide⟩
  have x17 : (stepM (stepM M)).x 17 = 3#64 := by
    rw [x2]
    show (stepM M).x 0 + 3#64 = 3#64
    rw [k1.x0]; rfl
  have hn3 := k2.next hl (a := ⟨64#8, 0#8, 0#8, 0#8, 0#64⟩) (keepL_tail rs 2)
  have hw3 : writesF ⟨64#8, 0#8, 0#8, 0#8, 0#64⟩ = false := writes_zero rfl
  generalize hM2 : stepM (stepM M) = M2 at *
  have hc : callsM { M2 with steps := M2.steps + 1#64 } = ({ M2 with steps := M2.steps + 1#64, events := M2.events ++ [(3#8, M2.x 10)] }, some false) := by
    unfold callsM; dsimp only; rw [x17]; rfl
  have e3 : stepM M2 = { M2 with steps := M2.steps + 1#64, events := M2.events ++ [(3#8, M2.x 10)], pc := M2.pc + 4#64, fin := some false } := by
    unfold stepM; rw [hn3]; dsimp only
    unfold doesM; dsimp only
    rw [if_neg (by show ¬ (0 < 0); omega), if_neg (by show ¬ (18 ≤ 64 ∧ 64 ≤ 21); omega), if_pos (by rfl), hc]
    dsimp only
    unfold putM; dsimp only
    rw [hw3]; rfl
  refine ⟨stepM M2, ?_, ?_, ?_, ?_, ?_, ?_⟩
  · rw [show (3 : Nat) = 0 + 1 + 1 + 1 from rfl, runN_go h.fin, runN_go k1.fin, hM2, runN_go k2.fin]; rfl
  · rw [e3]
  · rw [e3]; exact k2.x0
  · rw [e3]; exact k2.n
  · rw [e3]; exact k2.mem
  · rw [e3]
    show (M2.events ++ [_]).length = _
    rw [List.length_append, ev2, e]; rfl
theorem keep_run (rs : List KR) (h40 : rs.length ≤ 40) : ∃ M, runN 1000 (newM (keepImg rs) []) = ((keepL rs).length, M) ∧ M.fin = some false ∧ M.x 0 = 0#64 ∧ M.n = 64 ∧ MemIs (keepMem rs) M := by
  have hl : (keepL rs).length ≤ 1000000 := by rw [keepL_length]; omega
  obtain ⟨k1, e1⟩ := keep_first rs hl
  obtain ⟨M2, r2, k2, e2⟩ := keep_rounds rs hl rs [] _ rfl k1 e1
  obtain ⟨M3, r3, f3, x3, n3, m3, _⟩ := keep_last rs hl M2 _ k2
  refine ⟨M3, ?_, f3, x3, n3, m3⟩
  rw [show (1000 : Nat) = (3 * rs.length + (3 + (996 - 3 * rs.length))) + 1 by omega, runN_go (by rfl), runN_add, r2]
  dsimp only
  rw [runN_add, r3]
  dsimp only
  rw [runN_end (by rw [f3]; rfl), keepL_length]
  refine Prod.ext ?_ rfl
  show 3 * rs.length + (3 + 0) + 1 = 3 * rs.length + 4
  omega
end Go.Proofs.S
end
section
namespace Go.Proofs.S
open Go Go.Ux Go.Ux.Mach Go.Proofs Go.Proofs.M Go.Ux.Image
open Go.Proofs.N (doM loadsM)
end Go.Proofs.S
end
section
namespace Go.Ux.Mach
open Go Go.Ux
def loadT (f : Nat → BitVec 8) (o size : Nat) : Nat → BitVec 64
  | 0 => 0#64
  | k + 1 => (loadT f o size k <<< 8) + (f (o + (size - 1 - k))).setWidth 64
theorem shl_or (a : BitVec 64) (b : BitVec 8) : (a <<< 8) + b.setWidth 64 = (a <<< 8) ||| b.setWidth 64 := by
  apply BitVec.add_eq_or_of_and_eq_zero
  apply BitVec.eq_of_getLsbD_eq
  intro i hi
  simp only [BitVec.getLsbD_and, BitVec.getLsbD_shiftLeft, BitVec.getLsbD_setWidth, BitVec.getLsbD_zero]
  by_cases h : i < 8
  · simp [h]
  · rw [BitVec.getLsbD_of_ge b i (by omega)]; simp
theorem loadT_eq (f : Nat → BitVec 8) (o size : Nat) : ∀ k, loadT f o size k = loadR f o size k
  | 0 => rfl
  | k + 1 => by show (loadT f o size k <<< 8) + _ = (loadR f o size k <<< 8) ||| _; rw [loadT_eq f o size k, shl_or]
end Go.Ux.Mach
end
section
set_option linter.unusedSimpArgs false
set_option linter.unusedVariables false
namespace Go.Proofs.S
open Go Go.Ux Go.Ux.Mach Go.Proofs
theorem size64 {size : Nat} (h : size = 1 ∨ size = 2 ∨ size = 4 ∨ size = 8) : (BitVec.ofNat 64 size).toNat = size := by rw [BitVec.toNat_ofNat]; omega
theorem add64 {addr : BitVec 64} {size n : Nat} (h : size = 1 ∨ size = 2 ∨ size = 4 ∨ size = 8) (h1 : addr.toNat < 4194304 + n) (hn : n ≤ 524288) : (addr + BitVec.ofNat 64 size).toNat = addr.toNat + size := by rw [BitVec.toNat_add, size64 h]; omega
end Go.Proofs.S
end
section
set_option linter.unusedSimpArgs false
set_option linter.unusedVariables false
namespace Go.Proofs.S
open Go Go.Ux Go.Ux.Mach Go.Proofs
end Go.Proofs.S
end
section
set_option linter.unusedSimpArgs false
set_option linter.unusedVariables false
namespace Go.Proofs.S
open Go Go.Ux Go.Ux.Mach Go.Proofs
end Go.Proofs.S
end
section
set_option linter.unusedSimpArgs false
set_option linter.unusedVariables false
namespace Go.Proofs.S
open Go Go.Ux Go.Ux.Mach Go.Proofs
open Go.Proofs.M (instV Glob)
open Go.Ux.Image
end Go.Proofs.S
end
section
set_option linter.unusedSimpArgs false
set_option linter.unusedVariables false
namespace Go.Proofs.R
open Go Go.Ux Go.Ux.Image Go.Proofs
end Go.Proofs.R
end
section
set_option linter.unusedSimpArgs false
set_option linter.unusedVariables false
namespace Go.Proofs.R
open Go Go.Ux Go.Ux.Image Go.Proofs
end Go.Proofs.R
end
section
namespace Go.Proofs.S
open Go Go.Ux Go.Ux.Mach Go.Proofs Go.Proofs.M Go.Ux.Image
end Go.Proofs.S
end
