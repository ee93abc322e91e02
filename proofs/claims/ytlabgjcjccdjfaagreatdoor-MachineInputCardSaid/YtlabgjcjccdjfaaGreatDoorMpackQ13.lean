/- Steps of the proof, packed by program: McT7 UxEv McT8 McL1 McIn. -/
import Derived.Test.YtlabgjcjccdjfaaGreatDoorRows
import Derived.Test.YtlabgjcjccdjfaaGreatDoorMpackQ03
import Derived.Test.YtlabgjcjccdjfaaGreatDoorMpackQ12
set_option linter.unusedVariables false
set_option linter.unusedSimpArgs false
set_option linter.unnecessarySimpa false
section
set_option linter.unusedSimpArgs false
set_option linter.unusedVariables false
namespace Go.Proofs.S
open Go Go.Ux Go.Ux.Mach Go.Proofs
theorem ag25 : isAggT Tryz.prog 25 = some true := by kernel_rfl
theorem sz25 : sizeT Tryz.prog 25 = some 3 := by kernel_rfl
theorem ca30 : callable Tryz.prog 30 = true := by kernel_rfl
theorem ca31 : callable Tryz.prog 31 = true := by kernel_rfl
theorem bld10_16 (a : Option Addr) (n c : Nat) : ∀ w : World, (Instr.build 85 #[(2, .slice a n c), (4, U64 (65536#64))]).run Tryz.prog w = .ok (.agg #[.slice none 0 0, .slice none 0 0, .slice a n c, .int .u64 (0), .int .u64 (0), .int .u64 (0), .int .u64 (0), .int .u64 (0), .int .u64 (0), .int .u64 (0), .int .u64 (0), .int .u64 (0), .int .u64 (0), .int .u64 (0), .int .u64 (0), .int .u64 (0), .int .u64 (0), .int .u64 (0), .int .u64 (0), .int .u64 (0), .int .u64 (0), .int .u64 (0), .int .u64 (0), .int .u64 (0), .int .u64 (0), .int .u64 (0), .int .u64 (0), .int .u64 (0), .int .u64 (0), .int .u64 (0), .int .u64 (0), .int .u64 (0), .int .u64 (0), .int .u64 (0), .int .u64 (0), U64 (65536#64), .slice none 0 0, .nilIface, IN (0)]) w := fun _ => by kernel_rfl
theorem fo25_2 : fieldOff Tryz.prog 25 2 = some 2 := by kernel_rfl
theorem ag23 : isAggT Tryz.prog 23 = some false := by kernel_rfl
theorem el23 : elemT Tryz.prog 23 = some 50 := by kernel_rfl
theorem ca32 : callable Tryz.prog 32 = true := by kernel_rfl
theorem bld10_43 (p q r s : BitVec 8) (x : BitVec 64) (k : Bool) : ∀ w : World, (Instr.build 89 #[(0, .agg #[U8 (p), U8 (q), U8 (r), U8 (s), I64 (x)]), (1, .bool (k))]).run Tryz.prog w = .ok (.agg #[U8 (p), U8 (q), U8 (r), U8 (s), I64 (x), .bool (k)]) w := fun _ => by kernel_rfl
theorem bls10_44 (p q r s : BitVec 8) (x : BitVec 64) (k : Bool) : ∀ w : World, (Instr.buildSlice 81 1 #[(0, .agg #[U8 (p), U8 (q), U8 (r), U8 (s), I64 (x), .bool (k)])]).run Tryz.prog w = .ok (.slice (some ⟨w.heap.size, 0, none⟩) 1 1) (w.alloc (.cells #[U8 (p), U8 (q), U8 (r), U8 (s), I64 (x), .bool (k)] 89)) := fun _ => by kernel_rfl
theorem ap81 : appT Tryz.prog 81 = some (89, 6, 24, #[.int .u8 0, .int .u8 0, .int .u8 0, .int .u8 0, .int .i64 0, .bool false]) := by kernel_rfl
theorem sz81 : sizeT Tryz.prog 81 = some 1 := by kernel_rfl
theorem fo25_0 : fieldOff Tryz.prog 25 0 = some 0 := by kernel_rfl
theorem ap45 : appT Tryz.prog 45 = some (5, 1, 1, #[.int .u8 0]) := by kernel_rfl
theorem bld10_53 (b n : Nat) : ∀ w : World, (Instr.build 91 #[(0, U64 (4194304#64)), (1, .slice (some ⟨b, 0, none⟩) n n)]).run Tryz.prog w = .ok (.agg #[U64 (4194304#64), .slice (some ⟨b, 0, none⟩) n n]) w := fun _ => by kernel_rfl
theorem bld10_55 (b n : Nat) : ∀ w : World, (Instr.build 91 #[(0, U64 (8323072#64)), (1, .slice (some ⟨b, 0, none⟩) n n)]).run Tryz.prog w = .ok (.agg #[U64 (8323072#64), .slice (some ⟨b, 0, none⟩) n n]) w := fun _ => by kernel_rfl
theorem bls10_56 (a b n m : Nat) : ∀ w : World, (Instr.buildSlice 80 2 #[(0, .agg #[U64 (4194304#64), .slice (some ⟨a, 0, none⟩) n n]), (1, .agg #[U64 (8323072#64), .slice (some ⟨b, 0, none⟩) m m])]).run Tryz.prog w = .ok (.slice (some ⟨w.heap.size, 0, none⟩) 2 2) (w.alloc (.cells #[U64 (4194304#64), .slice (some ⟨a, 0, none⟩) n n, U64 (8323072#64), .slice (some ⟨b, 0, none⟩) m m] 91)) := fun _ => by kernel_rfl
theorem sz80 : sizeT Tryz.prog 80 = some 1 := by kernel_rfl
open Go.Proofs.M (instV Glob findRow decodeAt decode_no decode_ok)
open Go.Ux.Image
/-- A word's instruction, and how its decoding ends. -/
def decI (x : BitVec 32) : RvInst := match findRow x tableD with
  | some i => decodeAt i x
  | none => ⟨0, 0, 0, 0, 0⟩
def decE (x : BitVec 32) : Nat := match findRow x tableD with
  | some _ => 0
  | none => 100
theorem decode_spec (x : BitVec 32) (w : World) (hG : Glob w) : CallsR Tryz.prog 32 #[U32 x] w (fun v w' => v = .tuple #[instV (decI x), IN (decE x)] ∧ Ext w w') := by
  unfold decI decE
  rcases h : findRow x tableD with _ | i
  · exact decode_no x w hG h
  · exact decode_ok x w hG i h
def decW (x : BitVec 32) : RvInst × Bool := (decI x, (((decE x : Nat) : Int) == (0 : Int)) && ((decI x).op != 65#8))
theorem decW_T {x : BitVec 32} (h : (((decE x : Nat) : Int) == (0 : Int)) = true) : (decW x).2 = ((decI x).op != 65#8) := by unfold decW; rw [h]; rfl
theorem decW_F {x : BitVec 32} (h : (((decE x : Nat) : Int) == (0 : Int)) = false) : (decW x).2 = false := by unfold decW; rw [h]; rfl
theorem codeV_take (l : List (BitVec 32)) (i : Nat) (h : i < l.length) : codeV ((l.take (i + 1)).map decW) = codeV ((l.take i).map decW) ++ [U8 (decI l[i]).op, U8 (decI l[i]).rd, U8 (decI l[i]).rs1, U8 (decI l[i]).rs2, I64 (decI l[i]).imm, .bool (decW l[i]).2] := by
  rw [List.take_succ_eq_append_getElem h, List.map_append]
  exact codeV_snoc _ _
def newM (I : Img) (inp : List (BitVec 64)) : MS := { n := I.entry.toNat, d := fun _ => 0#8, s := fun _ => 0#8, code := I.words.map decW, input := inp, x := fun i => if i = 2 then 8388608#64 else 0#64, pc := 65536#64, events := [], fin := none, steps := 0#64 }
theorem word_get (l : List (BitVec 32)) (i : Nat) (h : i < l.length) : (wordCells l)[i]? = some (U32 l[i]) := by simp [wordCells, h]
theorem right_facts {I : Img} (h : rightB I = true) : 0 ≤ I.entry ∧ I.entry ≤ 524288 ∧ I.words.length ≤ 262144 := by
  simp only [rightB, right2, right3, Bool.and_eq_true, decide_eq_true_eq] at h
  exact ⟨h.1.1.1.1.1, h.1.1.1.1.2, h.1.1.2.2⟩
theorem ones_I64 (l : List (BitVec 64)) : ∀ u ∈ l.map I64, u.oneCell' = true := by
  intro u hu; obtain ⟨x, _, rfl⟩ := List.mem_map.1 hu; rfl
set_option maxRecDepth 100000 in
theorem new_no (I : Img) (sv wv iv0 : Value) (inp : List (BitVec 64)) (w : World) (hR : Rep w sv wv I) (hN : ∀ s ∈ I.syms, True ∧ s.2 ≤ 9223372036854775807) (hr : rightB I = false) : CallsR Tryz.prog 10 #[.agg #[.int .i64 (I.entry), sv, wv], iv0] w (fun v w' => v = .tuple #[.pointer none, IN 2] ∧ Ext w w') := by
  refine callsR_of Tryz.func10 rfl rfl rfl ?_
  refine WC.seq (WC.region (WL.box (v := .agg #[.int .i64 (I.entry), sv, wv]) rfl rfl ?_))
  intro b2 w2 n2
  have E1 : Ext w w2 := Mod.trans (Mod.refl _ _) (n2.ext)
  refine WL.assign (v := .pointer none) rfl rfl (WL.assign (v := IN (0)) rfl rfl (WL.nil (WC.seq (WC.seq (WC.region (WL.loadS [.int .i64 (I.entry), sv, wv] rfl ag25 sz25 rfl (n2.blk.sub (o := 0) (vs := [.int .i64 (I.entry), sv, wv]) rfl) rfl (WL.call ca30 (rfl) rfl (Go.Proofs.R.right_spec sv wv I _ (hR.ext (E1)) hN) ?_)))))))
  rintro _ wri ⟨rfl, eri⟩
  rw [hr]
  have E2 : Ext w wri := Mod.trans (E1) (eri)
  refine WL.un rfl rfl UnR.not (WL.nil (WC.condT rfl (WC.seq (WC.region (WL.assign (v := .pointer none) rfl rfl (WL.assign (v := IN (2)) rfl rfl (WL.nil (WC.ret ?_))))))))
  exact ⟨_, Res.two (v := .pointer none) (v' := IN (2)) rfl rfl rfl, rfl, E2⟩
theorem locB {w : World} {v v' : Value} {b n : Nat} (h : LocV w v v') (hB : ∀ g, v.ownBlock = some g → b < g ∧ g < n) (hb : b < w.heap.size) : ∀ g, v'.ownBlock = some g → b < g := fun g hg => by
  rcases h with h | ⟨g', h, hg'⟩
  · rw [h] at hg; exact (hB g hg).1
  · rw [h] at hg; cases hg; omega
theorem new_mr {w' : World} {b17 b56 b52 b54 n0 : Nat} {cvv iv : Value} {I : Img} {inp : List (BitVec 64)}
    (hb : Blk w' b17 (machCells (.slice (some ⟨b56, 0, none⟩) 2 2) cvv iv (newM I inp).x 65536#64 (.slice none 0 0) .nilIface 0#64) 85)
    (hm : Blk w' b56 #[U64 4194304#64, .slice (some ⟨b52, 0, none⟩) I.entry.toNat I.entry.toNat, U64 8323072#64, .slice (some ⟨b54, 0, none⟩) 65536 65536] 91)
    (hd : Ux.Own w' 1 (.slice (some ⟨b52, 0, none⟩) I.entry.toNat I.entry.toNat) I.entry.toNat (List.replicate I.entry.toNat (.int .u8 0))) (hs : Ux.Own w' 1 (.slice (some ⟨b54, 0, none⟩) 65536 65536) 65536 (List.replicate 65536 (.int .u8 0)))
    (hc : Ux.Own w' 6 cvv I.words.length (codeV (I.words.map decW))) (hi : Ux.Own w' 1 iv inp.length (inp.map I64))
    (k1 : ∀ g, iv.ownBlock = some g → g < b17) (k2 : ∀ g, cvv.ownBlock = some g → b17 < g) (k2a : ∀ g, cvv.ownBlock = some g → g < b52) (k2b : ∀ g, cvv.ownBlock = some g → g < b54) (k3 : b17 < b52) (k4 : b17 < b54) (k5 : b52 ≠ b54) (k6 : b52 < b56 ∧ b54 < b56)
    (h0 : n0 ≤ b17) (hiF : From n0 iv) (h6 : 6 ≤ n0) (hmle : I.entry.toNat ≤ 524288) : ∃ T, MR T w' b17 (newM I inp) ∧ ∀ k, T k ≠ 0 → n0 ≤ k := by
  have hlb := hb.lt
  have hlm := hm.lt
  have hcl : (newM I inp).code.length = I.words.length := by simp [newM]
  have sd : ∀ g, (Value.slice (some ⟨b52, 0, none⟩) I.entry.toNat I.entry.toNat).ownBlock = some g → g = b52 := fun g e => (Option.some.inj e).symm
  have ss : ∀ g, (Value.slice (some ⟨b54, 0, none⟩) 65536 65536).ownBlock = some g → g = b54 := fun g e => (Option.some.inj e).symm
  refine ⟨fun k => if k = b17 then 1 else if k = b56 then 2 else if k = b52 then 3 else if k = b54 then 4 else if cvv.ownBlock = some k then 5 else if iv.ownBlock = some k then 6 else 0, ⟨b56, _, _, cvv, iv, _, _, hb, hm, ?_, ?_, ?_, hi.sl, Ux.Own.nil _ _, rfl, ?_, ?_, ?_, ?_, ?_, ?_, ?_, ?_, ?_, ?_⟩, ?_⟩
  · have := bsV_zero I.entry.toNat; rw [this] at hd; exact hd
  · have := bsV_zero 65536; rw [this] at hs; exact hs
  · rw [hcl]; exact hc.sl
  · exact if_pos rfl
  · exact (if_neg (by omega)).trans (if_pos rfl)
  · intro g e; have := sd g e; subst this; exact (if_neg (by omega)).trans ((if_neg (by omega)).trans (if_pos rfl))
  · intro g e; have := ss g e; subst this; exact (if_neg (by omega)).trans ((if_neg (by omega)).trans ((if_neg (by omega)).trans (if_pos rfl)))
  · intro g e; have h1 := k2 g e; have h2 := k2a g e; have h3 := k2b g e; exact (if_neg (by omega)).trans ((if_neg (by omega)).trans ((if_neg (by omega)).trans ((if_neg (by omega)).trans (if_pos e))))
  · intro g e
    have h1 := k1 g e
    have hne : ¬ cvv.ownBlock = some g := fun e' => by have := k2 g e'; omega
    exact (if_neg (by omega)).trans ((if_neg (by omega)).trans ((if_neg (by omega)).trans ((if_neg (by omega)).trans ((if_neg hne).trans (if_pos e)))))
  · intro g e; cases e
  · intro g e; cases e
  · intro k hk
    try dsimp only at hk
    split at hk; · omega
    split at hk; · omega
    split at hk; · omega
    split at hk; · omega
    split at hk
    · rename_i e; have := k2 k e; have := k2a k e; omega
    split at hk
    · rename_i e; have := k1 k e; have := hiF k e; omega
    · exact absurd rfl hk
  · show I.entry.toNat ≤ 140737488355328; omega
  · intro k hk
    try dsimp only at hk
    split at hk; · omega
    split at hk; · omega
    split at hk; · omega
    split at hk; · omega
    split at hk
    · rename_i e; have := k2 k e; omega
    split at hk
    · rename_i e; exact hiF k e
    · exact absurd rfl hk
set_option maxRecDepth 100000 in
set_option maxHeartbeats 1000000 in
theorem new_ok (I : Img) (sv wv iv0 : Value) (inp : List (BitVec 64)) (w : World) (hR : Rep w sv wv I) (hN : ∀ s ∈ I.syms, True ∧ s.2 ≤ 9223372036854775807) (hG : Glob w) (h6 : 6 ≤ w.heap.size) (hI : Sl w iv0 1 inp.length (inp.map I64)) (hIf : iv0 = .slice none 0 0 ∨ ∃ a c, iv0 = .slice (some a) inp.length c) (hIl : inp.length ≤ 8796093022208) (hr : rightB I = true) : CallsR Tryz.prog 10 #[.agg #[.int .i64 (I.entry), sv, wv], iv0] w (fun v w' => ∃ T b, v = .tuple #[ptr b 0, IN 0] ∧ MR T w' b (newM I inp) ∧ (∀ k, T k ≠ 0 → w.heap.size ≤ k) ∧ Ext w w') := by
  obtain ⟨hr1, hr2, hr3⟩ := right_facts hr
  have hent : Value.int .i64 I.entry = IN I.entry.toNat := by show Value.int .i64 I.entry = Value.int .i64 ((I.entry.toNat : Nat) : Int); congr 1; omega
  refine callsR_of Tryz.func10 rfl rfl rfl ?_
  refine WC.seq (WC.region (WL.box (v := .agg #[.int .i64 (I.entry), sv, wv]) rfl rfl ?_))
  intro b2 w2 n2
  have E1 : Ext w w2 := Mod.trans (Mod.refl _ _) (n2.ext)
  refine WL.assign (v := .pointer none) rfl rfl (WL.assign (v := IN (0)) rfl rfl (WL.nil (WC.seq (WC.seq (WC.region (WL.loadS [.int .i64 (I.entry), sv, wv] rfl ag25 sz25 rfl (n2.blk.sub (o := 0) (vs := [.int .i64 (I.entry), sv, wv]) rfl) rfl (WL.call ca30 (rfl) rfl (Go.Proofs.R.right_spec sv wv I _ (hR.ext (E1)) hN) ?_)))))))
  rintro _ wri ⟨rfl, eri⟩
  rw [hr]
  have E2 : Ext w wri := Mod.trans (E1) (eri)
  refine WL.un rfl rfl UnR.not (WL.nil (WC.condF rfl (WC.skip (WC.seq (WC.region (WL.move (v := iv0) rfl rfl (WL.call ca31 (rfl) rfl (clone31 iv0 inp.length (inp.map I64) _ (hI.ext (E2)) hIf (ones_I64 _) hIl) ?_)))))))
  rintro _ wcl ⟨hc1, hc2, hc4, ecl⟩
  obtain ⟨ia, il, ic, rfl⟩ := hc1.sl.slc
  have hivF : From w.heap.size (.slice ia il ic) := fun g hg => Nat.le_trans (Mod.size (E2)) (hc2 g hg)
  have E3 : Ext w wcl := Mod.trans (E2) (ecl)
  refine WL.build (v := .agg #[.slice none 0 0, .slice none 0 0, .slice ia il ic, .int .u64 (0), .int .u64 (0), .int .u64 (0), .int .u64 (0), .int .u64 (0), .int .u64 (0), .int .u64 (0), .int .u64 (0), .int .u64 (0), .int .u64 (0), .int .u64 (0), .int .u64 (0), .int .u64 (0), .int .u64 (0), .int .u64 (0), .int .u64 (0), .int .u64 (0), .int .u64 (0), .int .u64 (0), .int .u64 (0), .int .u64 (0), .int .u64 (0), .int .u64 (0), .int .u64 (0), .int .u64 (0), .int .u64 (0), .int .u64 (0), .int .u64 (0), .int .u64 (0), .int .u64 (0), .int .u64 (0), .int .u64 (0), U64 (65536#64), .slice none 0 0, .nilIface, IN (0)]) (vs := [(2, .slice ia il ic), (4, U64 (65536#64))]) rfl (bld10_16 ia il ic) rfl ?_
  have B4 := ((n2.blk).ext (eri)).ext (ecl)
  refine WL.box (v := .agg #[.slice none 0 0, .slice none 0 0, .slice ia il ic, .int .u64 (0), .int .u64 (0), .int .u64 (0), .int .u64 (0), .int .u64 (0), .int .u64 (0), .int .u64 (0), .int .u64 (0), .int .u64 (0), .int .u64 (0), .int .u64 (0), .int .u64 (0), .int .u64 (0), .int .u64 (0), .int .u64 (0), .int .u64 (0), .int .u64 (0), .int .u64 (0), .int .u64 (0), .int .u64 (0), .int .u64 (0), .int .u64 (0), .int .u64 (0), .int .u64 (0), .int .u64 (0), .int .u64 (0), .int .u64 (0), .int .u64 (0), .int .u64 (0), .int .u64 (0), .int .u64 (0), .int .u64 (0), U64 (65536#64), .slice none 0 0, .nilIface, IN (0)]) rfl rfl ?_
  intro b17 w17 n17
  have E5 : Ext w w17 := Mod.trans (E3) (n17.ext)
  have hbb : w.heap.size ≤ b17 := by have := n17.num; have := Mod.size (E3); omega
  have hivb : ∀ g, (.slice ia il ic : Value).ownBlock = some g → g < b17 := fun g hg => by have := hc4 g hg; have := n17.num; omega
  have hb2 : b2 < b17 := by have := (B4).lt; have := n17.num; omega
  refine WL.assign (v := ptr b17 0) rfl rfl (WL.nil (WC.seq (WC.seq (WC.region (WL.fieldAddr rfl fo25_2 rfl ?_)))))
  have B6 := (B4).ext (n17.ext)
  refine WL.load1 rfl ag23 (B6.cell (j := 2) rfl) rfl (WL.lenSl (sz := 1) (m := I.words.length) (xs := wordCells I.words) el23 rfl ((hR.w).ext' (E5)) rfl (WL.move (v := IN (0)) rfl rfl (WL.nil ?_)))
  have O7 := (hc1).ext (n17.ext)
  have hIV0 := O7
  refine WC.block ?_
  refine WC.loop (fun k f w_ => ∃ i cvv, (k + i = I.words.length) ∧ f 0 = .agg #[.int .i64 (I.entry), sv, wv] ∧ f 1 = iv0 ∧ f 2 = ptr b2 0 ∧ f 6 = ptr b17 0 ∧ f 19 = wv ∧ f 20 = IN (I.words.length) ∧ f 21 = IN (i) ∧ (Ux.Own w_ 1 (.slice ia il ic) inp.length (inp.map I64)) ∧ (Ux.Own w_ 6 cvv i (codeV ((I.words.take i).map decW))) ∧ (∀ g, cvv.ownBlock = some g → b17 < g ∧ g < w_.heap.size) ∧ (Blk w_ b17 #[.slice none 0 0, cvv, .slice ia il ic, U64 (0#64), U64 (0#64), U64 (0#64), U64 (0#64), U64 (0#64), U64 (0#64), U64 (0#64), U64 (0#64), U64 (0#64), U64 (0#64), U64 (0#64), U64 (0#64), U64 (0#64), U64 (0#64), U64 (0#64), U64 (0#64), U64 (0#64), U64 (0#64), U64 (0#64), U64 (0#64), U64 (0#64), U64 (0#64), U64 (0#64), U64 (0#64), U64 (0#64), U64 (0#64), U64 (0#64), U64 (0#64), U64 (0#64), U64 (0#64), U64 (0#64), U64 (0#64), U64 (65536#64), .slice none 0 0, .nilIface, .int .i64 (0)] 85) ∧ (Blk w_ b2 #[.int .i64 (I.entry), sv, wv] 25) ∧ (Ext w w_)) (I.words.length) ?_ ?_
  · exact ⟨(0), (.slice none 0 0), by omega, rfl, rfl, rfl, rfl, rfl, rfl, rfl, hIV0, Ux.Own.nil _ _, (fun g hg => by cases hg), n17.blk, B6, E5⟩
  rintro ka f1 wr ⟨i, cvv, hk, h0_1, h1_1, h2_1, h6_1, h19_1, h20_1, h21_1, hIV, hO, hB, h17, h2, hE⟩
  refine WC.seq (WC.region (WL.bin h21_1 h20_1 rfl (BinR.lss) (WL.nil (WC.seq ?_))))
  refine WC.cond rfl (fun hc22 => ?_) (fun hc22 => ?_)
  · have hi : i < I.words.length := by have := of_decide_eq_true hc22; omega
    refine WC.skip (WC.seq (WC.block (WC.seq (WC.region (WL.indexSl (sz := 1) (m := I.words.length) (xs := wordCells I.words) (i := i) el23 sz50 h19_1 h21_1 (by omega) ((hR.w).ext' (hE)) rfl ?_)))))
    intro b23 o23 hb23 hc23
    refine WL.load1 rfl ag50 (by rw [Nat.mul_one]; exact hc23 i _ (word_get I.words i hi)) rfl (WL.assign (v := U32 (I.words[i])) rfl rfl (WL.nil (WC.seq (WC.region (WL.move (v := U32 (I.words[i])) rfl rfl (WL.call ca32 (rfl) rfl (decode_spec I.words[i] _ (hG.ext (hE))) ?_))))))
    rintro _ wde ⟨rfl, ede⟩
    have R8 : Ext wr wde := Mod.trans (Mod.refl _ _) (ede)
    have E9 : Ext w wde := Mod.trans (hE) (ede)
    refine WL.move (v := .tuple #[instV (decI I.words[i]), IN (decE I.words[i])]) rfl rfl (WL.extract rfl rfl rfl (WL.extract rfl rfl rfl ?_))
    have B10 := (h17).ext (ede)
    have B11 := (h2).ext (ede)
    refine WL.allocStore (v := .agg #[U8 ((decI I.words[i]).op), U8 ((decI I.words[i]).rd), U8 ((decI I.words[i]).rs1), U8 ((decI I.words[i]).rs2), I64 ((decI I.words[i]).imm)]) zt48 rfl sz48 rfl rfl rfl rfl ?_
    intro b9 w9 n9
    have hl_b17_b9 : b17 < b9 := by have := (B10).lt; have := n9.num; omega
    have hl_b2_b9 : b2 < b9 := by have := (B11).lt; have := n9.num; omega
    have E13 : Ext w w9 := Mod.trans (E9) (n9.ext)
    refine WL.assign (v := IN ((decE I.words[i]))) rfl rfl (WL.nil ?_)
    have N9 : cvv.ownBlock ≠ some b9 := fun e => by have := (hB b9 e).2; have := n9.num; have := Mod.size (R8); omega
    have hl9 : b17 < b9 := by have := n9.num; have := Mod.size (R8); have := h17.lt; omega
    rcases Bool.eq_false_or_eq_true (((((decE I.words[i]) : Nat) : Int) == (0 : Int))) with hd8_38 | hd8_38
    · refine WC.drawL (fun w_ => Mod (At cvv) wr w_ ∧ Blk w_ b17 #[.slice none 0 0, cvv, .slice ia il ic, U64 (0#64), U64 (0#64), U64 (0#64), U64 (0#64), U64 (0#64), U64 (0#64), U64 (0#64), U64 (0#64), U64 (0#64), U64 (0#64), U64 (0#64), U64 (0#64), U64 (0#64), U64 (0#64), U64 (0#64), U64 (0#64), U64 (0#64), U64 (0#64), U64 (0#64), U64 (0#64), U64 (0#64), U64 (0#64), U64 (0#64), U64 (0#64), U64 (0#64), U64 (0#64), U64 (0#64), U64 (0#64), U64 (0#64), U64 (0#64), U64 (0#64), U64 (0#64), U64 (65536#64), .slice none 0 0, .nilIface, .int .i64 (0)] 85 ∧ Blk w_ b9 #[U8 ((decI I.words[i]).op), U8 ((decI I.words[i]).rd), U8 ((decI I.words[i]).rs1), U8 ((decI I.words[i]).rs2), I64 ((decI I.words[i]).imm)] 48) 18 19 rfl mixed ?_
      intro wd_8 ed_8
      have E15 : Ext w wd_8 := Mod.trans (E13) (ed_8)
      have B16 := ((B10).ext (n9.ext)).ext (ed_8)
      have B17 := (n9.blk).ext (ed_8)
      refine WAL.take (i := 0) (m' := 1) (v := ptr b17 0) rfl rfl rfl rfl (by kernel_rfl) rfl (fun _ _ _ h => h) (fun wx hS => ?_) (⟨Mod.trans (Mod.trans (Mod.ext (ede)) (Mod.ext (n9.ext))) (Mod.ext (ed_8)), B16, B17⟩) ?_
      · exact WL.move (v := ptr b17 0) h6_1 rfl (WL.nil ⟨rfl, rfl, rfl⟩)
      refine WAL.take (i := 1) (m' := 3) (v := ptr b17 0) rfl rfl rfl rfl (by kernel_rfl) rfl (fun _ _ _ h => h) (fun wx hS => ?_) (⟨Mod.trans (Mod.trans (Mod.ext (ede)) (Mod.ext (n9.ext))) (Mod.ext (ed_8)), B16, B17⟩) ?_
      · exact WL.move (v := ptr b17 0) h6_1 rfl (WL.nil ⟨rfl, rfl, rfl⟩)
      refine WAL.take (i := 2) (m' := 7) (v := ptr b17 0) rfl rfl rfl rfl (by kernel_rfl) rfl (fun _ _ _ h => h) (fun wx hS => ?_) (⟨Mod.trans (Mod.trans (Mod.ext (ede)) (Mod.ext (n9.ext))) (Mod.ext (ed_8)), B16, B17⟩) ?_
      · exact WL.nilCheck rfl rfl (WL.nil ⟨rfl, rfl, rfl⟩)
      refine WAL.take (i := 3) (m' := 15) (v := ptr b17 1) rfl rfl rfl rfl (by kernel_rfl) rfl (fun _ _ _ h => h) (fun wx hS => ?_) (⟨Mod.trans (Mod.trans (Mod.ext (ede)) (Mod.ext (n9.ext))) (Mod.ext (ed_8)), B16, B17⟩) ?_
      · exact WL.fieldAddr rfl fo85_1 rfl (WL.nil ⟨rfl, rfl, rfl⟩)
      refine WAL.take (i := 4) (m' := 31) (v := cvv) rfl rfl rfl rfl (by kernel_rfl) rfl (fun _ _ _ h => h) (fun wx hS => ?_) (⟨Mod.trans (Mod.trans (Mod.ext (ede)) (Mod.ext (n9.ext))) (Mod.ext (ed_8)), B16, B17⟩) ?_
      · exact WL.load1 rfl ag81 (hS.2.1.cell (j := 1) rfl) rfl (WL.nil ⟨rfl, rfl, rfl⟩)
      refine WAL.take (i := 5) (m' := 63) (v := .agg #[U8 ((decI I.words[i]).op), U8 ((decI I.words[i]).rd), U8 ((decI I.words[i]).rs1), U8 ((decI I.words[i]).rs2), I64 ((decI I.words[i]).imm)]) rfl rfl rfl rfl (by kernel_rfl) rfl (fun _ _ _ h => h) (fun wx hS => ?_) (⟨Mod.trans (Mod.trans (Mod.ext (ede)) (Mod.ext (n9.ext))) (Mod.ext (ed_8)), B16, B17⟩) ?_
      · exact WL.loadS [U8 ((decI I.words[i]).op), U8 ((decI I.words[i]).rd), U8 ((decI I.words[i]).rs1), U8 ((decI I.words[i]).rs2), I64 ((decI I.words[i]).imm)] rfl ag48 sz48 rfl (hS.2.2.sub (o := 0) (vs := [U8 ((decI I.words[i]).op), U8 ((decI I.words[i]).rd), U8 ((decI I.words[i]).rs1), U8 ((decI I.words[i]).rs2), I64 ((decI I.words[i]).imm)]) rfl) rfl (WL.nil ⟨rfl, rfl, rfl⟩)
      refine WAL.take (i := 6) (m' := 127) (v := IN ((decE I.words[i]))) rfl rfl rfl rfl (by kernel_rfl) rfl (fun _ _ _ h => h) (fun wx hS => ?_) (⟨Mod.trans (Mod.trans (Mod.ext (ede)) (Mod.ext (n9.ext))) (Mod.ext (ed_8)), B16, B17⟩) ?_
      · exact WL.move (v := IN ((decE I.words[i]))) rfl rfl (WL.nil ⟨rfl, rfl, rfl⟩)
      refine WAL.take (i := 7) (m' := 255) (v := .bool (((((decE I.words[i]) : Nat) : Int) == (0 : Int)))) rfl rfl rfl rfl (by kernel_rfl) rfl (fun _ _ _ h => h) (fun wx hS => ?_) (⟨Mod.trans (Mod.trans (Mod.ext (ede)) (Mod.ext (n9.ext))) (Mod.ext (ed_8)), B16, B17⟩) ?_
      · exact WL.bin rfl rfl rfl (BinR.eql) (WL.nil ⟨rfl, rfl, rfl⟩)
      refine WAL.take (i := 8) (m' := 511) (v := .bool (((((decE I.words[i]) : Nat) : Int) == (0 : Int)))) rfl rfl rfl rfl (by kernel_rfl) rfl (fun _ _ _ h => h) (fun wx hS => ?_) (⟨Mod.trans (Mod.trans (Mod.ext (ede)) (Mod.ext (n9.ext))) (Mod.ext (ed_8)), B16, B17⟩) ?_
      · exact WL.move (v := .bool (((((decE I.words[i]) : Nat) : Int) == (0 : Int)))) rfl rfl (WL.nil ⟨rfl, rfl, rfl⟩)
      refine WAL.take (i := 9) (m' := 1023) (v := ptr b9 0) rfl rfl rfl rfl (by kernel_rfl) rfl (fun _ _ _ h => h) (fun wx hS => ?_) (⟨Mod.trans (Mod.trans (Mod.ext (ede)) (Mod.ext (n9.ext))) (Mod.ext (ed_8)), B16, B17⟩) ?_
      · refine WL.guardT (yf_bool rfl rfl hd8_38) (WL.fieldAddr rfl fo48_0 rfl ?_)
        exact WL.nil ⟨rfl, rfl, rfl⟩
      refine WAL.take (i := 10) (m' := 2047) (v := U8 ((decI I.words[i]).op)) rfl rfl rfl rfl (by kernel_rfl) rfl (fun _ _ _ h => h) (fun wx hS => ?_) (⟨Mod.trans (Mod.trans (Mod.ext (ede)) (Mod.ext (n9.ext))) (Mod.ext (ed_8)), B16, B17⟩) ?_
      · refine WL.guardT (yf_bool rfl rfl hd8_38) (WL.load1 rfl ag5 (hS.2.2.cell (j := 0) rfl) rfl ?_)
        exact WL.nil ⟨rfl, rfl, rfl⟩
      refine WAL.take (i := 11) (m' := 4095) (v := .bool (((decI I.words[i]).op != 65#8))) rfl rfl rfl rfl (by kernel_rfl) rfl (fun _ _ _ h => h) (fun wx hS => ?_) (⟨Mod.trans (Mod.trans (Mod.ext (ede)) (Mod.ext (n9.ext))) (Mod.ext (ed_8)), B16, B17⟩) ?_
      · refine WL.guardT (yf_bool rfl rfl hd8_38) (WL.bin rfl (vy := U8 (65#8)) rfl rfl (BinR.neqU8) ?_)
        exact WL.nil ⟨rfl, rfl, rfl⟩
      refine WAL.take (i := 12) (m' := 8191) (v := .bool (((decI I.words[i]).op != 65#8))) rfl rfl rfl rfl (by kernel_rfl) rfl (fun _ _ _ h => h) (fun wx hS => ?_) (⟨Mod.trans (Mod.trans (Mod.ext (ede)) (Mod.ext (n9.ext))) (Mod.ext (ed_8)), B16, B17⟩) ?_
      · exact WL.pick (b := true) (congrArg Value.bool hd8_38) rfl rfl (WL.nil ⟨rfl, rfl, rfl⟩)
      refine WAL.take (i := 13) (m' := 16383) (v := .agg #[U8 ((decI I.words[i]).op), U8 ((decI I.words[i]).rd), U8 ((decI I.words[i]).rs1), U8 ((decI I.words[i]).rs2), I64 ((decI I.words[i]).imm), .bool (((decI I.words[i]).op != 65#8))]) rfl rfl rfl rfl (by kernel_rfl) rfl (fun _ _ _ h => h) (fun wx hS => ?_) (⟨Mod.trans (Mod.trans (Mod.ext (ede)) (Mod.ext (n9.ext))) (Mod.ext (ed_8)), B16, B17⟩) ?_
      · exact WL.build (v := .agg #[U8 ((decI I.words[i]).op), U8 ((decI I.words[i]).rd), U8 ((decI I.words[i]).rs1), U8 ((decI I.words[i]).rs2), I64 ((decI I.words[i]).imm), .bool (((decI I.words[i]).op != 65#8))]) (vs := [(0, .agg #[U8 ((decI I.words[i]).op), U8 ((decI I.words[i]).rd), U8 ((decI I.words[i]).rs1), U8 ((decI I.words[i]).rs2), I64 ((decI I.words[i]).imm)]), (1, .bool (((decI I.words[i]).op != 65#8)))]) rfl (bld10_43 (decI I.words[i]).op (decI I.words[i]).rd (decI I.words[i]).rs1 (decI I.words[i]).rs2 (decI I.words[i]).imm (((decI I.words[i]).op != 65#8))) rfl (WL.nil ⟨rfl, rfl, rfl⟩)
      refine WAL.one (i := 14) (m' := 32767) (by kernel_rfl) rfl rfl ?_
      refine WL.buildSlice (vs := [(0, .agg #[U8 ((decI I.words[i]).op), U8 ((decI I.words[i]).rd), U8 ((decI I.words[i]).rs1), U8 ((decI I.words[i]).rs2), I64 ((decI I.words[i]).imm), .bool (((decI I.words[i]).op != 65#8))])]) rfl (bls10_44 (decI I.words[i]).op (decI I.words[i]).rd (decI I.words[i]).rs1 (decI I.words[i]).rs2 (decI I.words[i]).imm (((decI I.words[i]).op != 65#8))) rfl ?_
      intro b44 w44 n44
      have E19 : Ext w w44 := Mod.trans (E15) (n44.ext)
      have B20 := (B16).ext (n44.ext)
      have B21 := (B17).ext (n44.ext)
      refine WL.behindS (⟨Mod.trans (Mod.trans (Mod.trans (Mod.ext (ede)) (Mod.ext (n9.ext))) (Mod.ext (ed_8))) (Mod.ext (n44.ext)), B20, B21⟩) ?_
      refine WAL.one (i := 15) (m' := 65535) (by kernel_rfl) rfl rfl ?_
      have hl44 : b17 < w44.heap.size := (B20).lt
      have O22 := ((((hO).ext (ede)).ext (n9.ext)).ext (ed_8)).ext (n44.ext)
      refine WL.append (k := i) (m := 1) (xs := codeV ((I.words.take i).map decW)) (news := [U8 ((decI I.words[i]).op), U8 ((decI I.words[i]).rd), U8 ((decI I.words[i]).rs1), U8 ((decI I.words[i]).rs2), I64 ((decI I.words[i]).imm), .bool (((decI I.words[i]).op != 65#8))]) ap81 rfl rfl rfl (O22) ((Sl.of1 (n44.blk).cells rfl).src Tryz.underlying81 (List.all_eq_true.1 rfl)) (by omega) (by omega) rfl ?_
      intro v45 w45 o45 m45 l45
      have F23 : From w.heap.size v45 := LocV.from l45 (Mod.size (E19)) ((fun g hg => by have := (hB g hg).1; omega))
      have N24 : v45.ownBlock ≠ some b17 := LocV.ne l45 ((B20).lt) (fun e => by have := (hB b17 e).1; omega)
      have B26 := (((B11).ext (n9.ext)).ext (ed_8)).ext (n44.ext)
      have N25 : v45.ownBlock ≠ some b2 := LocV.ne l45 ((B26).lt) (fun e => by have := (hB b2 e).1; omega)
      have N27 : v45.ownBlock ≠ some b9 := LocV.ne l45 ((B21).lt) N9
      have E28 : Ext w w45 := Mod.from (E19) m45 ((fun g hg => by have := (hB g hg).1; omega))
      have hB2 := locB l45 hB hl44
      have B29 := (B20).mod (m45) ((fun e => by have := (hB b17 e).1; omega))
      have B30 := (B21).mod (m45) (N9)
      refine WL.behindS (⟨Mod.trans (Mod.trans (Mod.trans (Mod.trans (Mod.ext (ede)) (Mod.ext (n9.ext))) (Mod.ext (ed_8))) (Mod.ext (n44.ext))) (m45), B29, B30⟩) ?_
      refine WAL.one (i := 16) (m' := 131071) (by kernel_rfl) rfl rfl ?_
      refine WL.nilCheck rfl rfl (WL.behindS (⟨Mod.trans (Mod.trans (Mod.trans (Mod.trans (Mod.ext (ede)) (Mod.ext (n9.ext))) (Mod.ext (ed_8))) (Mod.ext (n44.ext))) (m45), B29, B30⟩) ?_)
      refine WAL.take (i := 17) (m' := 262143) (v := ptr b17 1) rfl rfl rfl rfl (by kernel_rfl) rfl (fun _ _ _ h => h) (fun wx hS => ?_) (⟨Mod.trans (Mod.trans (Mod.trans (Mod.trans (Mod.ext (ede)) (Mod.ext (n9.ext))) (Mod.ext (ed_8))) (Mod.ext (n44.ext))) (m45), B29, B30⟩) ?_
      · exact WL.fieldAddr rfl fo85_1 rfl (WL.nil ⟨rfl, rfl, rfl⟩)
      refine WAL.one (i := 18) (m' := 524287) (by kernel_rfl) rfl rfl ?_
      refine WL.storeB (v := v45) rfl rfl (o45).one sz81 B29 (Nat.le_of_ble_eq_true rfl) ?_
      intro ws31 ms31 bs31 zs31
      have E31 : Ext w ws31 := Mod.then (E28) (ms31) (fun i hi (e : i = b17) => absurd hi (by omega))
      refine WL.behindL (by kernel_rfl) ?_
      refine WAL.done (by kernel_rfl) ?_
      refine WC.region (WL.bin h21_1 rfl rfl (BinR.succN (by omega)) (WL.move (v := IN (i + 1)) rfl rfl (WL.nil ?_)))
      have O32 := ((((((hIV).ext (ede)).ext (n9.ext)).ext (ed_8)).ext (n44.ext)).mod (m45) ((fun g hg e => by have h1 := hivb g hg; have h2 := (hB g e).1; omega))).mod (ms31) (fun g hg e => (fun e => by have := hivb b17 e; omega) (hg.trans (congrArg some e)))
      have hIVe := O32
      have O33 := (o45).mod (ms31) (fun g hg e => N24 (hg.trans (congrArg some e)))
      have hOe : Ux.Own ws31 6 v45 (i + 1) (codeV ((I.words.take (i + 1)).map decW)) := by rw [codeV_take _ _ hi]; first | (rw [decW_T hd8_38]; exact O33) | (rw [decW_F hd8_38]; exact O33)
      have B34 := ((B26).mod (m45) ((fun e => by have := (hB b2 e).1; omega))).mod (ms31) ((by omega))
      exact ⟨ka - 1, by omega, (i + 1), (v45), by omega, h0_1, h1_1, h2_1, h6_1, h19_1, h20_1, rfl, hIVe, hOe, (fun g hg => ⟨hB2 g hg, hOe.lt (by omega) (by decide) hg⟩), bs31, B34, E31⟩
    · refine WC.drawL (fun w_ => Mod (At cvv) wr w_ ∧ Blk w_ b17 #[.slice none 0 0, cvv, .slice ia il ic, U64 (0#64), U64 (0#64), U64 (0#64), U64 (0#64), U64 (0#64), U64 (0#64), U64 (0#64), U64 (0#64), U64 (0#64), U64 (0#64), U64 (0#64), U64 (0#64), U64 (0#64), U64 (0#64), U64 (0#64), U64 (0#64), U64 (0#64), U64 (0#64), U64 (0#64), U64 (0#64), U64 (0#64), U64 (0#64), U64 (0#64), U64 (0#64), U64 (0#64), U64 (0#64), U64 (0#64), U64 (0#64), U64 (0#64), U64 (0#64), U64 (0#64), U64 (0#64), U64 (65536#64), .slice none 0 0, .nilIface, .int .i64 (0)] 85 ∧ Blk w_ b9 #[U8 ((decI I.words[i]).op), U8 ((decI I.words[i]).rd), U8 ((decI I.words[i]).rs1), U8 ((decI I.words[i]).rs2), I64 ((decI I.words[i]).imm)] 48) 18 19 rfl mixed ?_
      intro wd_8 ed_8
      have E36 : Ext w wd_8 := Mod.trans (E13) (ed_8)
      have B37 := ((B10).ext (n9.ext)).ext (ed_8)
      have B38 := (n9.blk).ext (ed_8)
      refine WAL.take (i := 0) (m' := 1) (v := ptr b17 0) rfl rfl rfl rfl (by kernel_rfl) rfl (fun _ _ _ h => h) (fun wx hS => ?_) (⟨Mod.trans (Mod.trans (Mod.ext (ede)) (Mod.ext (n9.ext))) (Mod.ext (ed_8)), B37, B38⟩) ?_
      · exact WL.move (v := ptr b17 0) h6_1 rfl (WL.nil ⟨rfl, rfl, rfl⟩)
      refine WAL.take (i := 1) (m' := 3) (v := ptr b17 0) rfl rfl rfl rfl (by kernel_rfl) rfl (fun _ _ _ h => h) (fun wx hS => ?_) (⟨Mod.trans (Mod.trans (Mod.ext (ede)) (Mod.ext (n9.ext))) (Mod.ext (ed_8)), B37, B38⟩) ?_
      · exact WL.move (v := ptr b17 0) h6_1 rfl (WL.nil ⟨rfl, rfl, rfl⟩)
      refine WAL.take (i := 2) (m' := 7) (v := ptr b17 0) rfl rfl rfl rfl (by kernel_rfl) rfl (fun _ _ _ h => h) (fun wx hS => ?_) (⟨Mod.trans (Mod.trans (Mod.ext (ede)) (Mod.ext (n9.ext))) (Mod.ext (ed_8)), B37, B38⟩) ?_
      · exact WL.nilCheck rfl rfl (WL.nil ⟨rfl, rfl, rfl⟩)
      refine WAL.take (i := 3) (m' := 15) (v := ptr b17 1) rfl rfl rfl rfl (by kernel_rfl) rfl (fun _ _ _ h => h) (fun wx hS => ?_) (⟨Mod.trans (Mod.trans (Mod.ext (ede)) (Mod.ext (n9.ext))) (Mod.ext (ed_8)), B37, B38⟩) ?_
      · exact WL.fieldAddr rfl fo85_1 rfl (WL.nil ⟨rfl, rfl, rfl⟩)
      refine WAL.take (i := 4) (m' := 31) (v := cvv) rfl rfl rfl rfl (by kernel_rfl) rfl (fun _ _ _ h => h) (fun wx hS => ?_) (⟨Mod.trans (Mod.trans (Mod.ext (ede)) (Mod.ext (n9.ext))) (Mod.ext (ed_8)), B37, B38⟩) ?_
      · exact WL.load1 rfl ag81 (hS.2.1.cell (j := 1) rfl) rfl (WL.nil ⟨rfl, rfl, rfl⟩)
      refine WAL.take (i := 5) (m' := 63) (v := .agg #[U8 ((decI I.words[i]).op), U8 ((decI I.words[i]).rd), U8 ((decI I.words[i]).rs1), U8 ((decI I.words[i]).rs2), I64 ((decI I.words[i]).imm)]) rfl rfl rfl rfl (by kernel_rfl) rfl (fun _ _ _ h => h) (fun wx hS => ?_) (⟨Mod.trans (Mod.trans (Mod.ext (ede)) (Mod.ext (n9.ext))) (Mod.ext (ed_8)), B37, B38⟩) ?_
      · exact WL.loadS [U8 ((decI I.words[i]).op), U8 ((decI I.words[i]).rd), U8 ((decI I.words[i]).rs1), U8 ((decI I.words[i]).rs2), I64 ((decI I.words[i]).imm)] rfl ag48 sz48 rfl (hS.2.2.sub (o := 0) (vs := [U8 ((decI I.words[i]).op), U8 ((decI I.words[i]).rd), U8 ((decI I.words[i]).rs1), U8 ((decI I.words[i]).rs2), I64 ((decI I.words[i]).imm)]) rfl) rfl (WL.nil ⟨rfl, rfl, rfl⟩)
      refine WAL.take (i := 6) (m' := 127) (v := IN ((decE I.words[i]))) rfl rfl rfl rfl (by kernel_rfl) rfl (fun _ _ _ h => h) (fun wx hS => ?_) (⟨Mod.trans (Mod.trans (Mod.ext (ede)) (Mod.ext (n9.ext))) (Mod.ext (ed_8)), B37, B38⟩) ?_
      · exact WL.move (v := IN ((decE I.words[i]))) rfl rfl (WL.nil ⟨rfl, rfl, rfl⟩)
      refine WAL.take (i := 7) (m' := 255) (v := .bool (((((decE I.words[i]) : Nat) : Int) == (0 : Int)))) rfl rfl rfl rfl (by kernel_rfl) rfl (fun _ _ _ h => h) (fun wx hS => ?_) (⟨Mod.trans (Mod.trans (Mod.ext (ede)) (Mod.ext (n9.ext))) (Mod.ext (ed_8)), B37, B38⟩) ?_
      · exact WL.bin rfl rfl rfl (BinR.eql) (WL.nil ⟨rfl, rfl, rfl⟩)
      refine WAL.take (i := 8) (m' := 511) (v := .bool (((((decE I.words[i]) : Nat) : Int) == (0 : Int)))) rfl rfl rfl rfl (by kernel_rfl) rfl (fun _ _ _ h => h) (fun wx hS => ?_) (⟨Mod.trans (Mod.trans (Mod.ext (ede)) (Mod.ext (n9.ext))) (Mod.ext (ed_8)), B37, B38⟩) ?_
      · exact WL.move (v := .bool (((((decE I.words[i]) : Nat) : Int) == (0 : Int)))) rfl rfl (WL.nil ⟨rfl, rfl, rfl⟩)
      refine WAL.off (i := 9) (m' := 1023) (y := some false) rfl rfl rfl rfl (by kernel_rfl) rfl (fun _ _ _ h => h) (yf_bool rfl rfl hd8_38) rfl (⟨Mod.trans (Mod.trans (Mod.ext (ede)) (Mod.ext (n9.ext))) (Mod.ext (ed_8)), B37, B38⟩) ?_
      refine WAL.off (i := 10) (m' := 2047) (y := some false) rfl rfl rfl rfl (by kernel_rfl) rfl (fun _ _ _ h => h) (yf_bool rfl rfl hd8_38) rfl (⟨Mod.trans (Mod.trans (Mod.ext (ede)) (Mod.ext (n9.ext))) (Mod.ext (ed_8)), B37, B38⟩) ?_
      refine WAL.off (i := 11) (m' := 4095) (y := some false) rfl rfl rfl rfl (by kernel_rfl) rfl (fun _ _ _ h => h) (yf_bool rfl rfl hd8_38) rfl (⟨Mod.trans (Mod.trans (Mod.ext (ede)) (Mod.ext (n9.ext))) (Mod.ext (ed_8)), B37, B38⟩) ?_
      refine WAL.take (i := 12) (m' := 8191) (v := .bool (false)) rfl rfl rfl rfl (by kernel_rfl) rfl (fun _ _ _ h => h) (fun wx hS => ?_) (⟨Mod.trans (Mod.trans (Mod.ext (ede)) (Mod.ext (n9.ext))) (Mod.ext (ed_8)), B37, B38⟩) ?_
      · exact WL.pick (b := false) (congrArg Value.bool hd8_38) rfl rfl (WL.nil ⟨rfl, rfl, rfl⟩)
      refine WAL.take (i := 13) (m' := 16383) (v := .agg #[U8 ((decI I.words[i]).op), U8 ((decI I.words[i]).rd), U8 ((decI I.words[i]).rs1), U8 ((decI I.words[i]).rs2), I64 ((decI I.words[i]).imm), .bool (false)]) rfl rfl rfl rfl (by kernel_rfl) rfl (fun _ _ _ h => h) (fun wx hS => ?_) (⟨Mod.trans (Mod.trans (Mod.ext (ede)) (Mod.ext (n9.ext))) (Mod.ext (ed_8)), B37, B38⟩) ?_
      · exact WL.build (v := .agg #[U8 ((decI I.words[i]).op), U8 ((decI I.words[i]).rd), U8 ((decI I.words[i]).rs1), U8 ((decI I.words[i]).rs2), I64 ((decI I.words[i]).imm), .bool (false)]) (vs := [(0, .agg #[U8 ((decI I.words[i]).op), U8 ((decI I.words[i]).rd), U8 ((decI I.words[i]).rs1), U8 ((decI I.words[i]).rs2), I64 ((decI I.words[i]).imm)]), (1, .bool (false))]) rfl (bld10_43 (decI I.words[i]).op (decI I.words[i]).rd (decI I.words[i]).rs1 (decI I.words[i]).rs2 (decI I.words[i]).imm (false)) rfl (WL.nil ⟨rfl, rfl, rfl⟩)
      refine WAL.one (i := 14) (m' := 32767) (by kernel_rfl) rfl rfl ?_
      refine WL.buildSlice (vs := [(0, .agg #[U8 ((decI I.words[i]).op), U8 ((decI I.words[i]).rd), U8 ((decI I.words[i]).rs1), U8 ((decI I.words[i]).rs2), I64 ((decI I.words[i]).imm), .bool (false)])]) rfl (bls10_44 (decI I.words[i]).op (decI I.words[i]).rd (decI I.words[i]).rs1 (decI I.words[i]).rs2 (decI I.words[i]).imm (false)) rfl ?_
      intro b44 w44 n44
      have E40 : Ext w w44 := Mod.trans (E36) (n44.ext)
      have B41 := (B37).ext (n44.ext)
      have B42 := (B38).ext (n44.ext)
      refine WL.behindS (⟨Mod.trans (Mod.trans (Mod.trans (Mod.ext (ede)) (Mod.ext (n9.ext))) (Mod.ext (ed_8))) (Mod.ext (n44.ext)), B41, B42⟩) ?_
      refine WAL.one (i := 15) (m' := 65535) (by kernel_rfl) rfl rfl ?_
      have hl44 : b17 < w44.heap.size := (B41).lt
      have O43 := ((((hO).ext (ede)).ext (n9.ext)).ext (ed_8)).ext (n44.ext)
      refine WL.append (k := i) (m := 1) (xs := codeV ((I.words.take i).map decW)) (news := [U8 ((decI I.words[i]).op), U8 ((decI I.words[i]).rd), U8 ((decI I.words[i]).rs1), U8 ((decI I.words[i]).rs2), I64 ((decI I.words[i]).imm), .bool (false)]) ap81 rfl rfl rfl (O43) ((Sl.of1 (n44.blk).cells rfl).src Tryz.underlying81 (List.all_eq_true.1 rfl)) (by omega) (by omega) rfl ?_
      intro v45 w45 o45 m45 l45
      have F44 : From w.heap.size v45 := LocV.from l45 (Mod.size (E40)) ((fun g hg => by have := (hB g hg).1; omega))
      have N45 : v45.ownBlock ≠ some b17 := LocV.ne l45 ((B41).lt) (fun e => by have := (hB b17 e).1; omega)
      have B47 := (((B11).ext (n9.ext)).ext (ed_8)).ext (n44.ext)
      have N46 : v45.ownBlock ≠ some b2 := LocV.ne l45 ((B47).lt) (fun e => by have := (hB b2 e).1; omega)
      have N48 : v45.ownBlock ≠ some b9 := LocV.ne l45 ((B42).lt) N9
      have E49 : Ext w w45 := Mod.from (E40) m45 ((fun g hg => by have := (hB g hg).1; omega))
      have hB2 := locB l45 hB hl44
      have B50 := (B41).mod (m45) ((fun e => by have := (hB b17 e).1; omega))
      have B51 := (B42).mod (m45) (N9)
      refine WL.behindS (⟨Mod.trans (Mod.trans (Mod.trans (Mod.trans (Mod.ext (ede)) (Mod.ext (n9.ext))) (Mod.ext (ed_8))) (Mod.ext (n44.ext))) (m45), B50, B51⟩) ?_
      refine WAL.one (i := 16) (m' := 131071) (by kernel_rfl) rfl rfl ?_
      refine WL.nilCheck rfl rfl (WL.behindS (⟨Mod.trans (Mod.trans (Mod.trans (Mod.trans (Mod.ext (ede)) (Mod.ext (n9.ext))) (Mod.ext (ed_8))) (Mod.ext (n44.ext))) (m45), B50, B51⟩) ?_)
      refine WAL.take (i := 17) (m' := 262143) (v := ptr b17 1) rfl rfl rfl rfl (by kernel_rfl) rfl (fun _ _ _ h => h) (fun wx hS => ?_) (⟨Mod.trans (Mod.trans (Mod.trans (Mod.trans (Mod.ext (ede)) (Mod.ext (n9.ext))) (Mod.ext (ed_8))) (Mod.ext (n44.ext))) (m45), B50, B51⟩) ?_
      · exact WL.fieldAddr rfl fo85_1 rfl (WL.nil ⟨rfl, rfl, rfl⟩)
      refine WAL.one (i := 18) (m' := 524287) (by kernel_rfl) rfl rfl ?_
      refine WL.storeB (v := v45) rfl rfl (o45).one sz81 B50 (Nat.le_of_ble_eq_true rfl) ?_
      intro ws52 ms52 bs52 zs52
      have E52 : Ext w ws52 := Mod.then (E49) (ms52) (fun i hi (e : i = b17) => absurd hi (by omega))
      refine WL.behindL (by kernel_rfl) ?_
      refine WAL.done (by kernel_rfl) ?_
      refine WC.region (WL.bin h21_1 rfl rfl (BinR.succN (by omega)) (WL.move (v := IN (i + 1)) rfl rfl (WL.nil ?_)))
      have O53 := ((((((hIV).ext (ede)).ext (n9.ext)).ext (ed_8)).ext (n44.ext)).mod (m45) ((fun g hg e => by have h1 := hivb g hg; have h2 := (hB g e).1; omega))).mod (ms52) (fun g hg e => (fun e => by have := hivb b17 e; omega) (hg.trans (congrArg some e)))
      have hIVe := O53
      have O54 := (o45).mod (ms52) (fun g hg e => N45 (hg.trans (congrArg some e)))
      have hOe : Ux.Own ws52 6 v45 (i + 1) (codeV ((I.words.take (i + 1)).map decW)) := by rw [codeV_take _ _ hi]; first | (rw [decW_T hd8_38]; exact O54) | (rw [decW_F hd8_38]; exact O54)
      have B55 := ((B47).mod (m45) ((fun e => by have := (hB b2 e).1; omega))).mod (ms52) ((by omega))
      exact ⟨ka - 1, by omega, (i + 1), (v45), by omega, h0_1, h1_1, h2_1, h6_1, h19_1, h20_1, rfl, hIVe, hOe, (fun g hg => ⟨hB2 g hg, hOe.lt (by omega) (by decide) hg⟩), bs52, B55, E52⟩
  · have hi : i = I.words.length := by have := of_decide_eq_false hc22; omega
    have hOc : Ux.Own wr 6 cvv I.words.length (codeV (I.words.map decW)) := by have h := hO; rw [hi, List.take_length] at h; exact h
    refine WC.exit (WC.seq (WC.drawL (fun w_ => Ext wr w_) 10 11 rfl mixed ?_))
    intro wd_10 ed_10
    have R56 : Ext wr wd_10 := Mod.trans (Mod.refl _ _) (ed_10)
    have R57 : Ext wr wd_10 := Mod.trans (Mod.refl _ _) (ed_10)
    have E58 : Ext w wd_10 := Mod.trans (hE) (ed_10)
    refine WAL.take (i := 0) (m' := 1) (v := ptr b17 0) rfl rfl rfl rfl (by kernel_rfl) rfl (fun _ _ _ h => h) (fun wx hS => ?_) (R57) ?_
    · exact WL.move (v := ptr b17 0) h6_1 rfl (WL.nil ⟨rfl, rfl, rfl⟩)
    refine WAL.take (i := 1) (m' := 3) (v := ptr b2 0) rfl rfl rfl rfl (by kernel_rfl) rfl (fun _ _ _ h => h) (fun wx hS => ?_) (R57) ?_
    · exact WL.fieldAddr h2_1 fo25_0 rfl (WL.nil ⟨rfl, rfl, rfl⟩)
    refine WAL.take (i := 2) (m' := 7) (v := .int .i64 (I.entry)) rfl rfl rfl rfl (by kernel_rfl) rfl (fun _ _ _ h => h) (fun wx hS => ?_) (R57) ?_
    · have B62 := (h2).ext (hS)
      exact WL.load1 rfl ag3 (B62.cell (j := 0) rfl) rfl (WL.nil ⟨rfl, rfl, rfl⟩)
    refine WAL.two (i := 3) (j := 5) (mi := 15) (mj := 39) (by kernel_rfl) rfl rfl rfl rfl ?_ ?_
    · have B63 := (h17).ext (ed_10)
      refine WL.makeSliceB (m := I.entry.toNat) ap45 (Eq.trans (rfl) hent) (Eq.trans (rfl) hent) (by omega) (by omega) rfl ?_
      intro b52 w52 n52
      have hl52 : b17 < b52 := by have := (B63).lt; have := n52.num; omega
      have hk52 : ∀ g, cvv.ownBlock = some g → g < b52 := fun g hg => by have := (hB g hg).2; have := n52.num; have := Mod.size (R56); omega
      have R64 : Ext wr w52 := Mod.trans (R56) (n52.ext)
      have R65 : Ext wr w52 := Mod.trans (R57) (n52.ext)
      have E66 : Ext w w52 := Mod.trans (E58) (n52.ext)
      refine WL.behindS (R65) ?_
      refine WAL.take (i := 4) (m' := 31) (v := .agg #[U64 (4194304#64), .slice (some ⟨b52, 0, none⟩) (I.entry.toNat) (I.entry.toNat)]) rfl rfl rfl rfl (by kernel_rfl) rfl (fun _ _ _ h => h) (fun wx hS => ?_) (R65) ?_
      · exact WL.build (v := .agg #[U64 (4194304#64), .slice (some ⟨b52, 0, none⟩) (I.entry.toNat) (I.entry.toNat)]) (vs := [(0, U64 (4194304#64)), (1, .slice (some ⟨b52, 0, none⟩) (I.entry.toNat) (I.entry.toNat))]) rfl (bld10_53 b52 I.entry.toNat) rfl (WL.nil ⟨rfl, rfl, rfl⟩)
      refine WAL.one (i := 5) (m' := 63) (by kernel_rfl) rfl rfl ?_
      have B68 := (B63).ext (n52.ext)
      refine WL.makeSliceB (m := 65536) ap45 rfl rfl (by omega) (by omega) rfl ?_
      intro b54 w54 n54
      have hl54 : b17 < b54 := by have := (B68).lt; have := n54.num; omega
      have hk54 : ∀ g, cvv.ownBlock = some g → g < b54 := fun g hg => by have := (hB g hg).2; have := n54.num; have := Mod.size (R64); omega
      have hx52 : b52 ≠ b54 := by have := n52.blk.lt; have := n54.num; omega
      have R70 : Ext wr w54 := Mod.trans (R65) (n54.ext)
      have E71 : Ext w w54 := Mod.trans (E66) (n54.ext)
      refine WL.behindS (R70) ?_
      refine WAL.take (i := 6) (m' := 127) (v := .agg #[U64 (8323072#64), .slice (some ⟨b54, 0, none⟩) (65536) (65536)]) rfl rfl rfl rfl (by kernel_rfl) rfl (fun _ _ _ h => h) (fun wx hS => ?_) (R70) ?_
      · exact WL.build (v := .agg #[U64 (8323072#64), .slice (some ⟨b54, 0, none⟩) (65536) (65536)]) (vs := [(0, U64 (8323072#64)), (1, .slice (some ⟨b54, 0, none⟩) (65536) (65536))]) rfl (bld10_55 b54 65536) rfl (WL.nil ⟨rfl, rfl, rfl⟩)
      refine WAL.one (i := 7) (m' := 255) (by kernel_rfl) rfl rfl ?_
      have B73 := (n52.blk).ext (n54.ext)
      refine WL.buildSlice (vs := [(0, .agg #[U64 (4194304#64), .slice (some ⟨b52, 0, none⟩) (I.entry.toNat) (I.entry.toNat)]), (1, .agg #[U64 (8323072#64), .slice (some ⟨b54, 0, none⟩) (65536) (65536)])]) rfl (bls10_56 b52 b54 I.entry.toNat 65536) rfl ?_
      intro b56 w56 n56
      have R75 : Ext wr w56 := Mod.trans (R70) (n56.ext)
      have E76 : Ext w w56 := Mod.trans (E71) (n56.ext)
      have hz56 : b52 < b56 ∧ b54 < b56 := by have := n56.num; have h1 := (B73).lt; have h2 := (n54.blk).lt; omega
      refine WL.behindS (R75) ?_
      refine WAL.one (i := 8) (m' := 511) (by kernel_rfl) rfl rfl ?_
      refine WL.nilCheck rfl rfl (WL.behindS (R75) ?_)
      refine WAL.take (i := 9) (m' := 1023) (v := ptr b17 0) rfl rfl rfl rfl (by kernel_rfl) rfl (fun _ _ _ h => h) (fun wx hS => ?_) (R75) ?_
      · exact WL.fieldAddr rfl fo85_0 rfl (WL.nil ⟨rfl, rfl, rfl⟩)
      refine WAL.one (i := 10) (m' := 2047) (by kernel_rfl) rfl rfl ?_
      have B78 := ((B68).ext (n54.ext)).ext (n56.ext)
      refine WL.storeB (v := .slice (some ⟨b56, 0, none⟩) 2 2) rfl rfl rfl sz80 B78 (Nat.le_of_ble_eq_true rfl) ?_
      intro ws79 ms79 bs79 zs79
      have E79 : Ext w ws79 := Mod.then (E76) (ms79) (fun i hi (e : i = b17) => absurd hi (by omega))
      refine WL.behindL (by kernel_rfl) ?_
      refine WAL.done (by kernel_rfl) ?_
      refine WC.seq (WC.region (WL.move (v := ptr b17 0) h6_1 rfl (WL.nilCheck rfl rfl (WL.fieldAddr rfl fo85_3 rfl (WL.indexArr (i := 2) ar68 sz39 rfl rfl (by omega) rfl (WL.storeB (v := U64 (8388608#64)) rfl rfl rfl sz39 bs79 (Nat.le_of_ble_eq_true rfl) ?_))))))
      intro ws80 ms80 bs80 zs80
      have E80 : Ext w ws80 := Mod.then (E79) (ms80) (fun i hi (e : i = b17) => absurd hi (by omega))
      refine WL.nil (WC.seq (WC.region (WL.move (v := ptr b17 0) h6_1 rfl (WL.assign (v := ptr b17 0) rfl rfl (WL.assign (v := IN (0)) rfl rfl (WL.nil (WC.ret ?_)))))))
      have B81 := ((n56.blk).mod (ms79) ((by omega))).mod (ms80) ((by omega))
      have O82 := ((((n52.blk.own).ext (n54.ext)).ext (n56.ext)).mod (ms79) (fun g hg e => (fun e => by have h : b52 = b17 := Option.some.inj e; omega) (hg.trans (congrArg some e)))).mod (ms80) (fun g hg e => (fun e => by have h : b52 = b17 := Option.some.inj e; omega) (hg.trans (congrArg some e)))
      have O83 := (((n54.blk.own).ext (n56.ext)).mod (ms79) (fun g hg e => (fun e => by have h : b54 = b17 := Option.some.inj e; omega) (hg.trans (congrArg some e)))).mod (ms80) (fun g hg e => (fun e => by have h : b54 = b17 := Option.some.inj e; omega) (hg.trans (congrArg some e)))
      have O84 := ((((((hO).ext (ed_10)).ext (n52.ext)).ext (n54.ext)).ext (n56.ext)).mod (ms79) (fun g hg e => (fun e => by have := (hB b17 e).1; omega) (hg.trans (congrArg some e)))).mod (ms80) (fun g hg e => (fun e => by have := (hB b17 e).1; omega) (hg.trans (congrArg some e)))
      have O85 := ((((((hIV).ext (ed_10)).ext (n52.ext)).ext (n54.ext)).ext (n56.ext)).mod (ms79) (fun g hg e => (fun e => by have := hivb b17 e; omega) (hg.trans (congrArg some e)))).mod (ms80) (fun g hg e => (fun e => by have := hivb b17 e; omega) (hg.trans (congrArg some e)))
      obtain ⟨T, hT1, hT2⟩ := new_mr (n0 := w.heap.size) bs80 B81 O82 O83 (by rw [← hi]; have h := O84; rw [hi] at h ⊢; rw [List.take_length] at h; exact h) O85 hivb (fun g hg => (hB g hg).1) hk52 hk54 hl52 hl54 hx52 hz56 hbb hivF h6 (by omega)
      exact ⟨_, Res.two (v := ptr b17 0) (v' := IN (0)) rfl rfl rfl, T, b17, rfl, hT1, hT2, E80⟩
    · have B86 := (h17).ext (ed_10)
      refine WL.makeSliceB (m := 65536) ap45 rfl rfl (by omega) (by omega) rfl ?_
      intro b54 w54 n54
      have hl54 : b17 < b54 := by have := (B86).lt; have := n54.num; omega
      have hk54 : ∀ g, cvv.ownBlock = some g → g < b54 := fun g hg => by have := (hB g hg).2; have := n54.num; have := Mod.size (R56); omega
      have R87 : Ext wr w54 := Mod.trans (R56) (n54.ext)
      have R88 : Ext wr w54 := Mod.trans (R57) (n54.ext)
      have E89 : Ext w w54 := Mod.trans (E58) (n54.ext)
      refine WL.behindS (R88) ?_
      refine WAL.take (i := 6) (m' := 103) (v := .agg #[U64 (8323072#64), .slice (some ⟨b54, 0, none⟩) (65536) (65536)]) rfl rfl rfl rfl (by kernel_rfl) rfl (fun _ _ _ h => h) (fun wx hS => ?_) (R88) ?_
      · exact WL.build (v := .agg #[U64 (8323072#64), .slice (some ⟨b54, 0, none⟩) (65536) (65536)]) (vs := [(0, U64 (8323072#64)), (1, .slice (some ⟨b54, 0, none⟩) (65536) (65536))]) rfl (bld10_55 b54 65536) rfl (WL.nil ⟨rfl, rfl, rfl⟩)
      refine WAL.one (i := 3) (m' := 111) (by kernel_rfl) rfl rfl ?_
      have B91 := (B86).ext (n54.ext)
      refine WL.makeSliceB (m := I.entry.toNat) ap45 (Eq.trans (rfl) hent) (Eq.trans (rfl) hent) (by omega) (by omega) rfl ?_
      intro b52 w52 n52
      have hl52 : b17 < b52 := by have := (B91).lt; have := n52.num; omega
      have hk52 : ∀ g, cvv.ownBlock = some g → g < b52 := fun g hg => by have := (hB g hg).2; have := n52.num; have := Mod.size (R87); omega
      have hx52 : b52 ≠ b54 := by have := n54.blk.lt; have := n52.num; omega
      have R93 : Ext wr w52 := Mod.trans (R88) (n52.ext)
      have E94 : Ext w w52 := Mod.trans (E89) (n52.ext)
      refine WL.behindS (R93) ?_
      refine WAL.take (i := 4) (m' := 127) (v := .agg #[U64 (4194304#64), .slice (some ⟨b52, 0, none⟩) (I.entry.toNat) (I.entry.toNat)]) rfl rfl rfl rfl (by kernel_rfl) rfl (fun _ _ _ h => h) (fun wx hS => ?_) (R93) ?_
      · exact WL.build (v := .agg #[U64 (4194304#64), .slice (some ⟨b52, 0, none⟩) (I.entry.toNat) (I.entry.toNat)]) (vs := [(0, U64 (4194304#64)), (1, .slice (some ⟨b52, 0, none⟩) (I.entry.toNat) (I.entry.toNat))]) rfl (bld10_53 b52 I.entry.toNat) rfl (WL.nil ⟨rfl, rfl, rfl⟩)
      refine WAL.one (i := 7) (m' := 255) (by kernel_rfl) rfl rfl ?_
      have B96 := (n54.blk).ext (n52.ext)
      refine WL.buildSlice (vs := [(0, .agg #[U64 (4194304#64), .slice (some ⟨b52, 0, none⟩) (I.entry.toNat) (I.entry.toNat)]), (1, .agg #[U64 (8323072#64), .slice (some ⟨b54, 0, none⟩) (65536) (65536)])]) rfl (bls10_56 b52 b54 I.entry.toNat 65536) rfl ?_
      intro b56 w56 n56
      have R98 : Ext wr w56 := Mod.trans (R93) (n56.ext)
      have E99 : Ext w w56 := Mod.trans (E94) (n56.ext)
      have hz56 : b52 < b56 ∧ b54 < b56 := by have := n56.num; have h1 := (n52.blk).lt; have h2 := (B96).lt; omega
      refine WL.behindS (R98) ?_
      refine WAL.one (i := 8) (m' := 511) (by kernel_rfl) rfl rfl ?_
      refine WL.nilCheck rfl rfl (WL.behindS (R98) ?_)
      refine WAL.take (i := 9) (m' := 1023) (v := ptr b17 0) rfl rfl rfl rfl (by kernel_rfl) rfl (fun _ _ _ h => h) (fun wx hS => ?_) (R98) ?_
      · exact WL.fieldAddr rfl fo85_0 rfl (WL.nil ⟨rfl, rfl, rfl⟩)
      refine WAL.one (i := 10) (m' := 2047) (by kernel_rfl) rfl rfl ?_
      have B101 := ((B91).ext (n52.ext)).ext (n56.ext)
      refine WL.storeB (v := .slice (some ⟨b56, 0, none⟩) 2 2) rfl rfl rfl sz80 B101 (Nat.le_of_ble_eq_true rfl) ?_
      intro ws102 ms102 bs102 zs102
      have E102 : Ext w ws102 := Mod.then (E99) (ms102) (fun i hi (e : i = b17) => absurd hi (by omega))
      refine WL.behindL (by kernel_rfl) ?_
      refine WAL.done (by kernel_rfl) ?_
      refine WC.seq (WC.region (WL.move (v := ptr b17 0) h6_1 rfl (WL.nilCheck rfl rfl (WL.fieldAddr rfl fo85_3 rfl (WL.indexArr (i := 2) ar68 sz39 rfl rfl (by omega) rfl (WL.storeB (v := U64 (8388608#64)) rfl rfl rfl sz39 bs102 (Nat.le_of_ble_eq_true rfl) ?_))))))
      intro ws103 ms103 bs103 zs103
      have E103 : Ext w ws103 := Mod.then (E102) (ms103) (fun i hi (e : i = b17) => absurd hi (by omega))
      refine WL.nil (WC.seq (WC.region (WL.move (v := ptr b17 0) h6_1 rfl (WL.assign (v := ptr b17 0) rfl rfl (WL.assign (v := IN (0)) rfl rfl (WL.nil (WC.ret ?_)))))))
      have B104 := ((n56.blk).mod (ms102) ((by omega))).mod (ms103) ((by omega))
      have O105 := (((n52.blk.own).ext (n56.ext)).mod (ms102) (fun g hg e => (fun e => by have h : b52 = b17 := Option.some.inj e; omega) (hg.trans (congrArg some e)))).mod (ms103) (fun g hg e => (fun e => by have h : b52 = b17 := Option.some.inj e; omega) (hg.trans (congrArg some e)))
      have O106 := ((((n54.blk.own).ext (n52.ext)).ext (n56.ext)).mod (ms102) (fun g hg e => (fun e => by have h : b54 = b17 := Option.some.inj e; omega) (hg.trans (congrArg some e)))).mod (ms103) (fun g hg e => (fun e => by have h : b54 = b17 := Option.some.inj e; omega) (hg.trans (congrArg some e)))
      have O107 := ((((((hO).ext (ed_10)).ext (n54.ext)).ext (n52.ext)).ext (n56.ext)).mod (ms102) (fun g hg e => (fun e => by have := (hB b17 e).1; omega) (hg.trans (congrArg some e)))).mod (ms103) (fun g hg e => (fun e => by have := (hB b17 e).1; omega) (hg.trans (congrArg some e)))
      have O108 := ((((((hIV).ext (ed_10)).ext (n54.ext)).ext (n52.ext)).ext (n56.ext)).mod (ms102) (fun g hg e => (fun e => by have := hivb b17 e; omega) (hg.trans (congrArg some e)))).mod (ms103) (fun g hg e => (fun e => by have := hivb b17 e; omega) (hg.trans (congrArg some e)))
      obtain ⟨T, hT1, hT2⟩ := new_mr (n0 := w.heap.size) bs103 B104 O105 O106 (by rw [← hi]; have h := O107; rw [hi] at h ⊢; rw [List.take_length] at h; exact h) O108 hivb (fun g hg => (hB g hg).1) hk52 hk54 hl52 hl54 hx52 hz56 hbb hivF h6 (by omega)
      exact ⟨_, Res.two (v := ptr b17 0) (v' := IN (0)) rfl rfl rfl, T, b17, rfl, hT1, hT2, E103⟩
end Go.Proofs.S
end
section
/- The walking engine: tests of structs of two integers. -/
namespace Go.Ux
open Go
/-- The type's two fields: two integers. -/
def pairT (P : Program) (t : Nat) : Bool :=
  match P.underlying t with
  | some (.struct fs) => match fs.toList with
    | [a, b] => a.name != "_" && b.name != "_" && a.offset == 0 && b.offset == 1 && (match P.underlying a.type with | some (.int _) => true | _ => false) && (match P.underlying b.type with | some (.int _) => true | _ => false) && isAggT P a.type == some false && isAggT P b.type == some false && !P.stoodInHeld t
    | _ => false
  | _ => false
theorem equal_pair {P : Program} {t : Nat} (h : pairT P t = true) (k1 k2 : IntKind) (a b x y : Int) (w : World) : (Op.equal t (.agg #[.int k1 a, .int k2 x]) (.agg #[.int k1 b, .int k2 y])).run P w = .ok (a == b && x == y) w := by
  unfold pairT at h
  split at h <;> try cases h
  rename_i fs hu
  split at h <;> try cases h
  rename_i fa fb hl
  simp only [Bool.and_eq_true, bne_iff_ne, beq_iff_eq, Bool.not_eq_true'] at h
  obtain ⟨⟨⟨⟨⟨⟨⟨⟨h1, h2⟩, h3⟩, h4⟩, h5⟩, h6⟩, h7⟩, h8⟩, h9⟩ := h
  split at h5 <;> try cases h5
  rename_i ka hia
  split at h6 <;> try cases h6
  rename_i kb hib
  have hf : P.fieldsOf t = fs := by simp [Program.fieldsOf, hu]
  show (Op.equalIn (9999 + 1) t _ _).run P w = _
  rw [run_equalIn_struct (P := P) w 9999 t _ _ (by rw [hf]; exact hu) h9, hf, hl]
  have e1 : ∀ w, (Op.equalIn 9999 fa.type (.int k1 a) (.int k1 b)).run P w = .ok (a == b) w := fun w => by
    show (Op.equalIn (9998 + 1) fa.type (.int k1 a) (.int k1 b)).run P w = _
    unfold Op.equalIn
    simp [run_underlying hia, Result.andThen]
  have e2 : ∀ w, (Op.equalIn 9999 fb.type (.int k2 x) (.int k2 y)).run P w = .ok (x == y) w := fun w => by
    show (Op.equalIn (9998 + 1) fb.type (.int k2 x) (.int k2 y)).run P w = _
    unfold Op.equalIn
    simp [run_underlying hib, Result.andThen]
  simp only [Op.eqFields, h1, h2, h3, h4, ne_eq, not_false_eq_true, if_true]
  have p1 : ∀ (u v : Value) (w : World), (part fa.type #[u, v] 0).run P w = .ok u w := fun u v w => by simp [part, isAggT_run h7, Result.andThen]
  have p2 : ∀ (u v : Value) (w : World), (part fb.type #[u, v] 1).run P w = .ok v w := fun u v w => by simp [part, isAggT_run h8, Result.andThen]
  simp only [Sem.run_bind, p1, e1, Result.andThen]
  generalize (a == b) = p at *
  generalize (x == y) = q at *
  cases p <;> cases q <;> simp [p2, e2, Result.andThen]
theorem beqInt {n : Nat} (x y : BitVec n) : (x.toInt == y.toInt) = (x == y) := by
  rw [Bool.eq_iff_iff]
  simp only [beq_iff_eq]
  exact ⟨BitVec.eq_of_toInt_eq, fun h => by rw [h]⟩
theorem BinR.eqlEv {P : Program} {t : Nat} (h : pairT P t = true) (hg : P.eqGuardType P.depth t = false) {a b : BitVec 8} {x y : BitVec 64} : BinR P .eql t (.agg #[U8 a, I64 x]) (.agg #[U8 b, I64 y]) (.bool (a == b && x == y)) := fun o o' w => by
  have e := equal_pair h .u8 .i64 a.toNat b.toNat x.toInt y.toInt w
  rw [beqNat, beqInt] at e
  simp only [eqGuard, binOp, Sem.run_bind, Sem.run_pure, Result.andThen]; simp [e, hg]
theorem BinR.neqEv {P : Program} {t : Nat} (h : pairT P t = true) (hg : P.eqGuardType P.depth t = false) {a b : BitVec 8} {x y : BitVec 64} : BinR P .neq t (.agg #[U8 a, I64 x]) (.agg #[U8 b, I64 y]) (.bool !(a == b && x == y)) := fun o o' w => by
  have e := equal_pair h .u8 .i64 a.toNat b.toNat x.toInt y.toInt w
  rw [beqNat, beqInt] at e
  simp only [eqGuard, binOp, Sem.run_bind, Sem.run_pure, Result.andThen]; simp [e, hg]
end Go.Ux
end
section
set_option linter.unusedSimpArgs false
set_option linter.unusedVariables false
namespace Go.Proofs.S
open Go Go.Ux Go.Ux.Mach Go.Proofs
theorem zt25 : zeroT Tryz.prog 25 = some #[.int .i64 0, .slice none 0 0, .slice none 0 0] := by kernel_rfl
theorem bld20_6  : ∀ w : World, (Instr.build 98 #[(0, St [115, 116, 97, 114, 116])]).run Tryz.prog w = .ok (.agg #[St [115, 116, 97, 114, 116], IN (0)]) w := fun _ => by kernel_rfl
theorem bls20_7  : ∀ w : World, (Instr.buildSlice 22 1 #[(0, .agg #[St [115, 116, 97, 114, 116], IN (0)])]).run Tryz.prog w = .ok (.slice (some ⟨w.heap.size, 0, none⟩) 1 1) (w.alloc (.cells #[St [115, 116, 97, 114, 116], IN (0)] 98)) := fun _ => by kernel_rfl
theorem bld20_9 (x : Int) (p : Nat) (a : Option Addr) (n c : Nat) : ∀ w : World, (Instr.build 25 #[(0, .int .i64 (x)), (1, .slice (some ⟨p, 0, none⟩) 1 1), (2, .slice a n c)]).run Tryz.prog w = .ok (.agg #[.int .i64 (x), .slice (some ⟨p, 0, none⟩) 1 1, .slice a n c]) w := fun _ => by kernel_rfl
theorem bls9_6  : ∀ w : World, (Instr.buildSlice 23 5 #[(0, U32 (7341331#32)), (1, U32 (2099347#32)), (2, U32 (115#32)), (3, U32 (3147923#32)), (4, U32 (115#32))]).run Tryz.prog w = .ok (.slice (some ⟨w.heap.size, 0, none⟩) 5 5) (w.alloc (.cells #[U32 (7341331#32), U32 (2099347#32), U32 (115#32), U32 (3147923#32), U32 (115#32)] 50)) := fun _ => by kernel_rfl
theorem ca20 : callable Tryz.prog 20 = true := by kernel_rfl
theorem ca10 : callable Tryz.prog 10 = true := by kernel_rfl
theorem ca11 : callable Tryz.prog 11 = true := by kernel_rfl
theorem ca14 : callable Tryz.prog 14 = true := by kernel_rfl
theorem el34 : elemT Tryz.prog 34 = some 38 := by kernel_rfl
theorem sz38 : sizeT Tryz.prog 38 = some 2 := by kernel_rfl
theorem ag38 : isAggT Tryz.prog 38 = some true := by kernel_rfl
theorem bld9_30  : ∀ w : World, (Instr.build 38 #[(0, .int .u8 (2)), (1, I64 (7#64))]).run Tryz.prog w = .ok (.agg #[.int .u8 (2), I64 (7#64)]) w := fun _ => by kernel_rfl
theorem bld9_37  : ∀ w : World, (Instr.build 38 #[(0, .int .u8 (3)), (1, I64 (7#64))]).run Tryz.prog w = .ok (.agg #[.int .u8 (3), I64 (7#64)]) w := fun _ => by kernel_rfl
theorem ca13 : callable Tryz.prog 13 = true := by kernel_rfl
theorem ca16 : callable Tryz.prog 16 = true := by kernel_rfl
open Go.Proofs.M (instV Glob findRow decodeAt decReg rowIs findRow_lt)
open Go.Ux.Image
theorem glob_size {w : World} (h : Glob w) : 6 ≤ w.heap.size := by
  have := World.block_lt_of_cell? w _ (h.f7 0 _ rfl)
  exact this
theorem findRow_pos {x : BitVec 32} {i : Nat} (h : findRow x tableD = some i) : 1 ≤ i := by
  rcases Nat.eq_zero_or_pos i with h0 | h0
  · subst h0
    unfold findRow at h
    rw [List.findIdx?_eq_some_iff_getElem] at h
    obtain ⟨hl, h1, _⟩ := h
    exact absurd h1 (by show ¬ rowIs zeroRow x = true; unfold rowIs; simp [zeroRow, RvRow.form, formOf, zeroForm])
  · exact h0
theorem decReg_lt (has : Bool) (k : Nat) (x : BitVec 32) : (decReg has (k, 5) x).toNat < 32 := by
  unfold decReg
  split
  · have h1 : ((1#32 <<< 5) - 1#32 : BitVec 32) = 31#32 := by decide
    simp only [bitsOf, h1, BitVec.toNat_setWidth, BitVec.toNat_and]
    have : (x >>> k).toNat &&& (31#32 : BitVec 32).toNat ≤ 31 := Nat.and_le_right
    omega
  · decide
theorem decI_ok {x : BitVec 32} (h : (decW x).2 = true) : 1 ≤ (decI x).op.toNat ∧ (decI x).op.toNat < 66 ∧ ((decI x).rs1).toNat < 32 ∧ ((decI x).rs2).toNat < 32 ∧ ((decI x).rd).toNat < 32 := by
  have h0 : (((decE x : Nat) : Int) == (0 : Int)) = true := by
    rcases Bool.eq_false_or_eq_true (((decE x : Nat) : Int) == (0 : Int)) with h1 | h1
    · exact h1
    · rw [decW_F h1] at h; cases h
  unfold decE at h0
  unfold decI
  rcases hf : findRow x tableD with _ | i
  · rw [hf] at h0; cases h0
  · have h1 := findRow_pos hf
    have h2 : i < 66 := findRow_lt hf
    have e : (BitVec.ofNat 8 i).toNat = i := by rw [BitVec.toNat_ofNat]; omega
    refine ⟨?_, ?_, decReg_lt _ _ _, decReg_lt _ _ _, decReg_lt _ _ _⟩
    · show 1 ≤ (BitVec.ofNat 8 i).toNat; omega
    · show (BitVec.ofNat 8 i).toNat < 66; omega
theorem newM_code {I : Img} {inp : List (BitVec 64)} (h : I.words.length ≤ 262144) : CodeOk (newM I inp).code := by
  refine ⟨by show (I.words.map decW).length ≤ _; rw [List.length_map]; omega, fun p hp h2 => ?_⟩
  obtain ⟨x, _, rfl⟩ := List.mem_map.1 hp
  exact decI_ok h2
theorem pair38 : pairT Tryz.prog 38 = true := by kernel_rfl
theorem pairg38 : Tryz.prog.eqGuardType Tryz.prog.depth 38 = false := by kernel_rfl
def workI : Img := ⟨0, [([115, 116, 97, 114, 116], 0)], [7341331#32, 2099347#32, 115#32, 3147923#32, 115#32]⟩
theorem work_right : rightB workI = true := by kernel_rfl
theorem work_n : (runN 100 (newM workI [])).1 = 5 := by kernel_rfl
theorem work_ev : (runN 100 (newM workI [])).2.events = [(2#8, 7#64), (3#8, 7#64)] := by kernel_rfl
theorem work_fin : (runN 100 (newM workI [])).2.fin = some false := by kernel_rfl
theorem whole_spec (a : Option Addr) (n c : Nat) (dat : Int) (w : World) : CallsR Tryz.prog 20 #[.slice a n c, .int .i64 (dat)] w (fun v w' => ∃ p, v = .agg #[.int .i64 dat, .slice (some ⟨p, 0, none⟩) 1 1, .slice a n c] ∧ Sl w' (.slice (some ⟨p, 0, none⟩) 1 1) 2 1 (symCells [([115, 116, 97, 114, 116], 0)]) ∧ Ext w w') := by
  refine callsR_of Tryz.func20 rfl rfl rfl ?_
  refine WC.seq (WC.region (WL.alloc zt25 rfl ?_))
  intro b4 w4 n4
  have E1 : Ext w w4 := Mod.trans (Mod.refl _ _) (n4.ext)
  refine WL.nil (WC.seq (WC.region (WL.move (v := .int .i64 (dat)) rfl rfl (WL.build (v := .agg #[St [115, 116, 97, 114, 116], IN (0)]) (vs := [(0, St [115, 116, 97, 114, 116])]) rfl (bld20_6) rfl (WL.buildSlice (vs := [(0, .agg #[St [115, 116, 97, 114, 116], IN (0)])]) rfl (bls20_7) rfl ?_)))))
  intro b7 w7 n7
  have E2 : Ext w w7 := Mod.trans (E1) (n7.ext)
  refine WL.move (v := .slice a n c) rfl rfl (WL.build (v := .agg #[.int .i64 (dat), .slice (some ⟨b7, 0, none⟩) 1 1, .slice a n c]) (vs := [(0, .int .i64 (dat)), (1, .slice (some ⟨b7, 0, none⟩) 1 1), (2, .slice a n c)]) rfl (bld20_9 dat b7 a n c) rfl ?_)
  have B3 := (n4.blk).ext (n7.ext)
  refine WL.storeS (v := .agg #[.int .i64 (dat), .slice (some ⟨b7, 0, none⟩) 1 1, .slice a n c]) rfl rfl B3 rfl sz25 rfl rfl ?_
  intro ws4 ms4 bs4 zs4
  have E4 : Ext w ws4 := Mod.own (Mod.refl _ _) n4 (E2) (ms4)
  refine WL.nil (WC.ret ?_)
  have B5 := (n7.blk).mod (ms4) (Ne.symm ((n4.blk).ne n7))
  exact ⟨_, Res.cell rfl rfl (loadVar_agg [.int .i64 (dat), .slice (some ⟨b7, 0, none⟩) 1 1, .slice a n c] ag25 sz25 rfl (bs4.sub (o := 0) rfl)), b7, rfl, (Sl.of1 (B5).cells rfl), E4⟩
set_option maxRecDepth 100000 in
theorem works_spec (w : World) (hG : Glob w) (hX : w.cell? ⟨3, 0, none⟩ = some (.iface 206 (.agg #[.pointer (some ⟨6, 83, none⟩)]))) : CallsR Tryz.prog 9 #[] w (fun v w' => v = .bool true ∧ Ext w w') := by
  refine callsR_of Tryz.func9 rfl rfl rfl ?_
  refine WC.seq (WC.region (WL.assign (v := .bool (false)) rfl rfl (WL.nil (WC.seq (WC.region (WL.buildSlice (vs := [(0, U32 (7341331#32)), (1, U32 (2099347#32)), (2, U32 (115#32)), (3, U32 (3147923#32)), (4, U32 (115#32))]) rfl (bls9_6) rfl ?_))))))
  intro b6 w6 n6
  have E1 : Ext w w6 := Mod.trans (Mod.refl _ _) (n6.ext)
  refine WL.call ca20 (rfl) rfl (whole_spec (some ⟨b6, 0, none⟩) 5 5 0 _) ?_
  rintro _ wwh ⟨p, rfl, hsy, ewh⟩
  have E2 : Ext w wwh := Mod.trans (E1) (ewh)
  have B3 := (n6.blk).ext (ewh)
  have hRW : Rep wwh (.slice (some ⟨p, 0, none⟩) 1 1) (.slice (some ⟨b6, 0, none⟩) 5 5) workI := ⟨hsy, Go.Proofs.M.Sl.ofCells (n := 5) (B3).cells rfl, by decide, by decide⟩
  refine WL.call ca10 (rfl) rfl (new_ok workI _ _ (.slice none 0 0) [] _ hRW (by decide) (hG.ext (E2)) (glob_size (hG.ext (E2))) (Sl.nil _ _ _) (.inl rfl) (by decide) work_right) ?_
  rintro _ wne ⟨T, b, rfl, hM, hT, ene⟩
  have hTw : ∀ k, T k ≠ 0 → w.heap.size ≤ k := fun k h => Nat.le_trans (Mod.size (E2)) (hT k h)
  have E4 : Ext w wne := Mod.trans (E2) (ene)
  refine WL.move (v := .tuple #[ptr b 0, IN 0]) rfl rfl (WL.extract rfl rfl rfl (WL.extract rfl rfl rfl (WL.assign (v := ptr b 0) rfl rfl (WL.assign (v := IN (0)) rfl rfl (WL.nil (WC.seq (WC.region (WL.move (v := ptr b 0) rfl rfl (WL.call ca11 (rfl) rfl (run_spec T b (newM workI []) _ hM 100 (by decide) (newM_code (by decide)) (hG.ext (E4)) (Mod.cell (E4) hX (fun h => h)) (by decide)) ?_)))))))))
  rintro v12 wru ⟨hv12, T1, hM1, m1, hs1⟩
  obtain rfl : v12 = IN 5 := hv12.trans (congrArg (fun n : Nat => IN n) work_n)
  have EM5 : Ext w wru := Mod.then (E4) m1 (fun i hi e => absurd (hTw i e) (Nat.not_le_of_lt hi))
  refine WL.assign (v := IN (5)) rfl rfl (WL.nil (WC.seq (WC.region (WL.move (v := ptr b 0) rfl rfl ?_))))
  have hle : (runN (100 : Int).toNat (newM workI [])).2.events = [(2#8, 7#64), (3#8, 7#64)] := work_ev
  refine WL.call ca14 (rfl) rfl (events_spec T1 b _ _ hM1 (by rw [hle]; decide)) ?_
  rintro v14 wev ⟨hc1, hc2, hc3⟩
  rw [hle] at hc1
  have E6 : Ext w wev := Mod.trans (EM5) (hc3)
  refine WL.assign (v := v14) rfl rfl (WL.nil (WC.seq (WC.region (WL.move (v := IN (0)) rfl rfl (WL.bin (v := .bool (true)) rfl rfl rfl (BinR.toB (BinR.eql) (rfl)) (WL.move (v := .bool (true)) rfl rfl (WL.guardT (rfl) (WL.move (v := IN (5)) rfl rfl (WL.guardT (rfl) ?_)))))))))
  refine WL.bin (v := .bool (true)) rfl rfl rfl (BinR.toB (BinR.eql) (rfl)) (WL.pick (b := true) rfl rfl rfl (WL.move (v := .bool (true)) rfl rfl (WL.guardT (rfl) (WL.move (v := v14) rfl rfl (WL.guardT (rfl) (WL.lenSl (sz := 2) (m := 2) (xs := evV [(2#8, 7#64), (3#8, 7#64)]) el34 rfl (hc1.sl) rfl (WL.guardT (rfl) (WL.bin (v := .bool (true)) rfl rfl rfl (BinR.toB (BinR.eql) (rfl)) (WL.pick (b := true) rfl rfl rfl ?_)))))))))
  refine WL.move (v := .bool (true)) rfl rfl (WL.guardT (rfl) (WL.move (v := v14) rfl rfl (WL.guardT (rfl) (WL.indexSl (sz := 2) (m := 2) (xs := evV [(2#8, 7#64), (3#8, 7#64)]) (i := 0) el34 sz38 rfl rfl (by omega) (hc1.sl) rfl ?_))))
  intro b28 o28 hb28 hc28
  refine WL.guardT (rfl) (WL.loadS [U8 2#8, I64 7#64] rfl ag38 sz38 rfl (cells2 (i := 0) hc28 rfl rfl) rfl (WL.guardT (rfl) (WL.build (v := .agg #[.int .u8 (2), I64 (7#64)]) (vs := [(0, .int .u8 (2)), (1, I64 (7#64))]) rfl (bld9_30) rfl (WL.guardT (rfl) (WL.bin (vx := .agg #[U8 2#8, I64 7#64]) (vy := .agg #[U8 2#8, I64 7#64]) (v := .bool true) rfl rfl rfl (BinR.toB (BinR.eqlEv pair38 pairg38) (by decide)) (WL.pick (b := true) rfl rfl rfl (WL.move (v := .bool (true)) rfl rfl (WL.guardT (rfl) (WL.move (v := v14) rfl rfl ?_)))))))))
  refine WL.guardT (rfl) (WL.indexSl (sz := 2) (m := 2) (xs := evV [(2#8, 7#64), (3#8, 7#64)]) (i := 1) el34 sz38 rfl rfl (by omega) (hc1.sl) rfl ?_)
  intro b35 o35 hb35 hc35
  refine WL.guardT (rfl) (WL.loadS [U8 3#8, I64 7#64] rfl ag38 sz38 rfl (cells2 (i := 1) hc35 rfl rfl) rfl (WL.guardT (rfl) (WL.build (v := .agg #[.int .u8 (3), I64 (7#64)]) (vs := [(0, .int .u8 (3)), (1, I64 (7#64))]) rfl (bld9_37) rfl (WL.guardT (rfl) (WL.bin (vx := .agg #[U8 3#8, I64 7#64]) (vy := .agg #[U8 3#8, I64 7#64]) (v := .bool true) rfl rfl rfl (BinR.toB (BinR.eqlEv pair38 pairg38) (by decide)) (WL.pick (b := true) rfl rfl rfl (WL.move (v := .bool (true)) rfl rfl (WL.guardT (rfl) (WL.move (v := ptr b 0) rfl rfl ?_)))))))))
  refine WL.guardT (rfl) (WL.call ca13 (rfl) rfl (ended_spec T1 b _ _ (hM1.ext (hc3))) ?_)
  rintro _ we ⟨rfl, ee⟩
  rw [show (runN (100 : Int).toNat (newM workI [])).2.fin = some false from work_fin]
  have E7 : Ext w we := Mod.trans (E6) (ee)
  refine WL.pick (b := true) rfl rfl rfl (WL.move (v := .bool (true)) rfl rfl (WL.guardT (rfl) (WL.move (v := ptr b 0) rfl rfl (WL.guardT (rfl) (WL.call ca16 (rfl) rfl (trapped_m T1 b _ _ (hM1.ext (hc3.trans ee)) (Mod.cell (E7) hX (fun h => h))) ?_)))))
  rintro _ wt ⟨rfl, et⟩
  rw [show (runN (100 : Int).toNat (newM workI [])).2.fin = some false from work_fin]
  have E8 : Ext w wt := Mod.trans (E7) (et)
  refine WL.guardT (rfl) (WL.un rfl rfl UnR.not (WL.pick (b := true) rfl rfl rfl (WL.assign (v := .bool (true)) rfl rfl (WL.nil (WC.ret ?_)))))
  exact ⟨_, Res.one (v := .bool (true)) rfl rfl, rfl, E8⟩
end Go.Proofs.S
end
section
set_option linter.unusedSimpArgs false
set_option linter.unusedVariables false
namespace Go.Proofs.S
open Go Go.Ux Go.Ux.Mach Go.Proofs
theorem ca9 : callable Tryz.prog 9 = true := by kernel_rfl
theorem fo25_1 : fieldOff Tryz.prog 25 1 = some 1 := by kernel_rfl
theorem ag22 : isAggT Tryz.prog 22 = some false := by kernel_rfl
theorem el22 : elemT Tryz.prog 22 = some 98 := by kernel_rfl
theorem ca15 : callable Tryz.prog 15 = true := by kernel_rfl
theorem ca17 : callable Tryz.prog 17 = true := by kernel_rfl
open Go.Proofs.M (instV Glob)
open Go.Ux.Image
theorem runN_keeps : ∀ (k : Nat) (M : MS), (runN k M).2.code = M.code ∧ (runN k M).2.events.length ≤ M.events.length + k ∧ (runN k M).1 ≤ k
  | 0, M => ⟨rfl, Nat.le_refl _, Nat.le_refl _⟩
  | k + 1, M => by
    rcases hf : M.fin with _ | t
    · rw [runN_go hf]
      obtain ⟨h1, h2, h3⟩ := runN_keeps k (stepM M)
      obtain ⟨h4, h5⟩ := stepM_keeps M
      exact ⟨h1.trans h4, by show (runN k (stepM M)).2.events.length ≤ _; omega, by show (runN k (stepM M)).1 + 1 ≤ _; omega⟩
    · rw [runN_end (by rw [hf]; rfl)]
      exact ⟨rfl, by show M.events.length ≤ _; omega, Nat.zero_le _⟩
theorem runN_add : ∀ (a b : Nat) (M : MS), runN (a + b) M = ((runN a M).1 + (runN b (runN a M).2).1, (runN b (runN a M).2).2)
  | 0, b, M => by rw [Nat.zero_add]; show _ = (0 + (runN b M).1, (runN b M).2); rw [Nat.zero_add]
  | a + 1, b, M => by
    rcases hf : M.fin with _ | t
    · rw [show a + 1 + b = (a + b) + 1 by omega, runN_go hf, runN_go hf, runN_add a b (stepM M)]
      refine Prod.ext ?_ rfl
      show (runN a (stepM M)).1 + (runN b (runN a (stepM M)).2).1 + 1 = (runN a (stepM M)).1 + 1 + (runN b (runN a (stepM M)).2).1
      omega
    · have h : M.fin.isSome = true := by rw [hf]; rfl
      rw [runN_end h (a + 1 + b), runN_end h (a + 1)]
      show (0, M) = (0 + (runN b M).1, (runN b M).2)
      rw [runN_end h b]; rfl
theorem run_specN (T : Nat → Nat) (b : Nat) (M : MS) (w : World) (h : MR T w b M) (n : Nat) (hn : n ≤ 1000000) (hc : CodeOk M.code) (hG : Glob w) (hX : w.cell? ⟨3, 0, none⟩ = some (.iface 206 (.agg #[.pointer (some ⟨6, 83, none⟩)]))) (hev : M.events.length ≤ 1000000) :
    CallsR Tryz.prog 11 #[ptr b 0, IN n] w (fun v w' => v = IN (runN n M).1 ∧ Turn T w b (runN n M).2 w') :=
  run_spec T b M w h (n : Int) (by omega) hc hG hX (by rw [Int.toNat_natCast]; omega)
/-- No block is both machines'. -/
def Sep (Ta Tb : Nat → Nat) : Prop := ∀ k, Ta k ≠ 0 → Tb k = 0
theorem Sep.symm {Ta Tb : Nat → Nat} (h : Sep Ta Tb) : Sep Tb Ta := fun k hb => by
  rcases Nat.eq_zero_or_pos (Ta k) with h0 | h0
  · exact h0
  · exact absurd (h k (by omega)) hb
theorem Sep.turn {Ta Ta' Tb : Nat → Nat} {w : World} {b : Nat} {M : MS} (h : Sep Ta Tb) (hs : ∀ k, Ta' k ≠ 0 → Ta k ≠ 0 ∨ w.heap.size ≤ k) (hb : MR Tb w b M) : Sep Ta' Tb := fun k hk => by
  rcases hs k hk with h1 | h1
  · exact h k h1
  · rcases Nat.eq_zero_or_pos (Tb k) with h0 | h0
    · exact h0
    · have := (hb.lt k (by omega)).1; omega
theorem Sep.new {Ta Tb : Nat → Nat} {w : World} {b : Nat} {M : MS} (ha : MR Ta w b M) (hb : ∀ k, Tb k ≠ 0 → w.heap.size ≤ k) : Sep Ta Tb := fun k hk => by
  have := (ha.lt k hk).1
  rcases Nat.eq_zero_or_pos (Tb k) with h0 | h0
  · exact h0
  · have := hb k (by omega); omega
theorem MR.far {Ta Tb : Nat → Nat} {w w' : World} {b : Nat} {M : MS} (h : MR Tb w b M) (m : Mod (Fp Ta) w w') (hs : Sep Ta Tb) : MR Tb w' b M := h.mod m fun k hk e => hk (hs k e)
theorem floor_turn {T T' : Nat → Nat} {w w1 : World} (h : ∀ k, T k ≠ 0 → w.heap.size ≤ k) (hs : ∀ k, T' k ≠ 0 → T k ≠ 0 ∨ w1.heap.size ≤ k) (hw : w.heap.size ≤ w1.heap.size) : ∀ k, T' k ≠ 0 → w.heap.size ≤ k := fun k hk => by
  rcases hs k hk with h1 | h1
  · exact h k h1
  · omega
end Go.Proofs.S
end
section
/- More input changes nothing, while no more is read than there is. No program in sight. -/
namespace Go.Proofs.S
open Go Go.Ux Go.Ux.Mach
/-- The machine with more input behind its own. -/
def inM (e : List (BitVec 64)) (M : MS) : MS := { M with input := M.input ++ e }
/-- How many reads are told. -/
def rdN : List (BitVec 8 × BitVec 64) → Nat
  | [] => 0
  | p :: r => (if p.1 == 1#8 then 1 else 0) + rdN r
theorem rdN_append : ∀ l r, rdN (l ++ r) = rdN l + rdN r
  | [], r => (Nat.zero_add _).symm
  | p :: l, r => by simp only [List.cons_append, rdN]; rw [rdN_append l r]; omega
/-- One step with more input: the same, or a read where there is none. -/
def InOk (e : List (BitVec 64)) (M : MS) (r r' : MS × Option Bool) : Prop :=
  (r' = (inM e r.1, r.2) ∧ rdN r.1.events + r.1.input.length = rdN M.events + M.input.length ∧ rdN M.events ≤ rdN r.1.events) ∨ (M.input = [] ∧ rdN r.1.events = rdN M.events + 1)
theorem calls_in (e : List (BitVec 64)) (M : MS) : InOk e M (callsM M) (callsM (inM e M)) := by
  unfold InOk callsM
  show _ ∨ _
  by_cases h1 : (M.x 17 == 1#64) = true
  · rw [if_pos h1, if_pos (show ((inM e M).x 17 == 1#64) = true from h1)]
    cases hi : M.input with
    | nil => right; exact ⟨rfl, by simp only [rdN_append]; rfl⟩
    | cons a t =>
      left
      refine ⟨?_, ?_, ?_⟩
      · simp only [inM, hi, List.cons_append, List.tail_cons, List.headD_cons]
      · simp only [rdN_append, List.tail_cons, List.length_cons]
        have : rdN [(1#8, a)] = 1 := rfl
        simp only [List.headD_cons]
        omega
      · simp only [rdN_append]; omega
  rw [if_neg h1, if_neg (show ¬ ((inM e M).x 17 == 1#64) = true from h1)]
  left
  by_cases h2 : (M.x 17 == 2#64) = true
  · rw [if_pos h2, if_pos (show ((inM e M).x 17 == 2#64) = true from h2)]
    exact ⟨rfl, by simp only [rdN_append]; rfl, by simp only [rdN_append]; omega⟩
  rw [if_neg h2, if_neg (show ¬ ((inM e M).x 17 == 2#64) = true from h2)]
  by_cases h3 : (M.x 17 == 3#64) = true
  · rw [if_pos h3, if_pos (show ((inM e M).x 17 == 3#64) = true from h3)]
    exact ⟨rfl, by simp only [rdN_append]; rfl, by simp only [rdN_append]; omega⟩
  rw [if_neg h3, if_neg (show ¬ ((inM e M).x 17 == 3#64) = true from h3)]
  by_cases h4 : (M.x 17 == 4#64) = true
  · rw [if_pos h4, if_pos (show ((inM e M).x 17 == 4#64) = true from h4)]
    exact ⟨rfl, by simp only [rdN_append]; rfl, by simp only [rdN_append]; omega⟩
  rw [if_neg h4, if_neg (show ¬ ((inM e M).x 17 == 4#64) = true from h4)]
  exact ⟨rfl, rfl, Nat.le_refl _⟩
theorem store_in (e : List (BitVec 64)) (M : MS) (k : Bool) (o z : Nat) (v : BitVec 64) : storeM (inM e M) k o z v = inM e (storeM M k o z v) := by cases k <;> rfl
theorem storeM_input (M : MS) (k : Bool) (o z : Nat) (v : BitVec 64) : (storeM M k o z v).input = M.input := by cases k <;> rfl
theorem does_in (e : List (BitVec 64)) (M : MS) (a : RvInst) : InOk e M (doesM M a) (doesM (inM e M) a) := by
  have hx : (inM e M).x = M.x := rfl
  have hn : (inM e M).n = M.n := rfl
  have hp : (inM e M).pc = M.pc := rfl
  have hd : (inM e M).d = M.d := rfl
  have hs : (inM e M).s = M.s := rfl
  unfold doesM
  simp only [hx, hn, hp, hd, hs]
  split
  · split
    · exact .inl ⟨rfl, rfl, Nat.le_refl _⟩
    · exact .inl ⟨rfl, rfl, Nat.le_refl _⟩
  split
  · split
    · exact .inl ⟨rfl, rfl, Nat.le_refl _⟩
    · refine .inl ⟨by rw [store_in]; rfl, ?_, ?_⟩
      · rw [putM_events, storeM_events]; show _ + (storeM M _ _ _ _).input.length = _; rw [storeM_input]
      · rw [putM_events, storeM_events]; exact Nat.le_refl _
  split
  · rcases calls_in e M with ⟨h1, h2, h3⟩ | ⟨h1, h2⟩
    · rw [h1]
      refine .inl ?_
      dsimp only
      split
      · exact ⟨rfl, h2, h3⟩
      · exact ⟨rfl, h2, h3⟩
    · refine .inr ⟨h1, ?_⟩
      dsimp only
      split
      · exact h2
      · exact h2
  · exact .inl ⟨rfl, rfl, Nat.le_refl _⟩
theorem step_in (e : List (BitVec 64)) (M : MS) : (stepM (inM e M) = inM e (stepM M) ∧ rdN (stepM M).events + (stepM M).input.length = rdN M.events + M.input.length ∧ rdN M.events ≤ rdN (stepM M).events) ∨ (M.input = [] ∧ rdN (stepM M).events = rdN M.events + 1) := by
  have hn : nextM (inM e M) = nextM M := rfl
  unfold stepM
  rw [hn]
  cases hN : nextM M with
  | none => exact .inl ⟨rfl, rfl, Nat.le_refl _⟩
  | some a =>
    have h := does_in e { M with steps := M.steps + 1#64 } a
    have ee : inM e { M with steps := M.steps + 1#64 } = { inM e M with steps := (inM e M).steps + 1#64 } := rfl
    rw [ee] at h
    rcases h with ⟨h1, h2, h3⟩ | ⟨h1, h2⟩
    · refine .inl ⟨?_, h2, h3⟩
      dsimp only
      rw [h1]; rfl
    · exact .inr ⟨h1, h2⟩
theorem run_reads : ∀ (k : Nat) (M : MS), rdN M.events ≤ rdN (runN k M).2.events
  | 0, M => Nat.le_refl _
  | k + 1, M => by
    cases hf : M.fin with
    | some b => rw [runN_end (by rw [hf]; rfl)]; exact Nat.le_refl _
    | none =>
      rw [runN_go hf]
      have h1 := run_reads k (stepM M)
      rcases step_in [] M with ⟨_, _, h3⟩ | ⟨_, h2⟩
      · exact Nat.le_trans h3 h1
      · have h1' : rdN (stepM M).events ≤ rdN (runN k (stepM M)).2.events := h1
        show rdN M.events ≤ rdN (runN k (stepM M)).2.events
        omega
/-- THE LAW. -/
theorem runs_in (e : List (BitVec 64)) : ∀ (k : Nat) (M : MS), rdN (runN k M).2.events ≤ rdN M.events + M.input.length → runN k (inM e M) = ((runN k M).1, inM e (runN k M).2)
  | 0, M, _ => rfl
  | k + 1, M, h => by
    cases hf : M.fin with
    | some b => rw [runN_end (M := M) (by rw [hf]; rfl), runN_end (M := inM e M) (by show M.fin.isSome = true; rw [hf]; rfl)]
    | none =>
      rw [runN_go hf] at h ⊢
      rw [runN_go (M := inM e M) hf]
      have h' : rdN (runN k (stepM M)).2.events ≤ rdN M.events + M.input.length := h
      have h1 := run_reads k (stepM M)
      rcases step_in e M with ⟨h2, h3, h4⟩ | ⟨h2, h3⟩
      · rw [h2, runs_in e k (stepM M) (by omega)]
      · rw [h2, List.length_nil] at h'; omega
theorem run_ended : ∀ (k : Nat) (M : MS), (runN k M).1 < k → (runN k M).2.fin.isSome = true
  | 0, M, h => absurd h (Nat.not_lt_zero _)
  | k + 1, M, h => by
    cases hf : M.fin with
    | some b => rw [runN_end (by rw [hf]; rfl)]; rw [hf]; rfl
    | none =>
      rw [runN_go hf] at h ⊢
      exact run_ended k (stepM M) (by have h' : (runN k (stepM M)).1 + 1 < k + 1 := h; omega)
theorem newM_in (I : Image.Img) (inp more : List (BitVec 64)) : newM I (inp ++ more) = inM more (newM I inp) := rfl
theorem rdN_take (l : List (BitVec 8 × BitVec 64)) (i : Nat) (h : i < l.length) : rdN (l.take (i + 1)) = rdN (l.take i) + (if l[i].1 == 1#8 then 1 else 0) := by
  rw [List.take_add_one, rdN_append, List.getElem?_eq_getElem h]; rfl
theorem rdN_le : ∀ l : List (BitVec 8 × BitVec 64), rdN l ≤ l.length
  | [] => Nat.le_refl _
  | p :: r => by have := rdN_le r; simp only [rdN, List.length_cons]; split <;> omega
theorem does_steps (M : MS) (a : RvInst) : (doesM M a).1.steps = M.steps := by
  have hs : ∀ k o z v, (storeM M k o z v).steps = M.steps := fun k o z v => by cases k <;> rfl
  have hc : (callsM M).1.steps = M.steps := by unfold callsM; split; · rfl
                                               split; · rfl
                                               split; · rfl
                                               split <;> rfl
  unfold doesM
  dsimp only
  split
  · split <;> rfl
  split
  · split
    · rfl
    · exact hs _ _ _ _
  split
  · dsimp only
    split
    · exact hc
    · exact hc
  · rfl
theorem step_steps (M : MS) : (stepM M).steps = M.steps + 1#64 := by
  unfold stepM
  split
  · rfl
  · exact does_steps _ _
theorem run_steps : ∀ (k : Nat) (M : MS), (runN k M).2.steps = M.steps + BitVec.ofNat 64 (runN k M).1
  | 0, M => by show M.steps = M.steps + 0#64; simp
  | k + 1, M => by
    cases hf : M.fin with
    | some b => rw [runN_end (by rw [hf]; rfl)]; show M.steps = M.steps + 0#64; simp
    | none =>
      rw [runN_go hf]
      show (runN k (stepM M)).2.steps = M.steps + BitVec.ofNat 64 ((runN k (stepM M)).1 + 1)
      rw [run_steps k (stepM M), step_steps, BitVec.ofNat_add, BitVec.add_assoc, BitVec.add_comm (1#64)]
theorem steps_IN (n : Nat) (h : n < 1000) : I64 (0#64 + BitVec.ofNat 64 n) = IN n := by
  have : (0#64 + BitVec.ofNat 64 n).toInt = (n : Int) := by
    rw [BitVec.zero_add, BitVec.toInt_eq_toNat_cond, BitVec.toNat_ofNat, Nat.mod_eq_of_lt (by omega), if_pos (by omega)]
  show Value.int .i64 _ = Value.int .i64 _
  rw [this]
theorem evV_get : ∀ (l : List (BitVec 8 × BitVec 64)) (j : Nat) (h : j < l.length), (evV l)[j * 2]? = some (U8 (l[j]).1) ∧ (evV l)[j * 2 + 1]? = some (I64 (l[j]).2)
  | p :: r, 0, _ => ⟨rfl, rfl⟩
  | p :: r, j + 1, h => by
    have hh := evV_get r j (by simpa using h)
    have e : evV (p :: r) = U8 p.1 :: I64 p.2 :: evV r := rfl
    rw [e, Nat.add_mul, Nat.one_mul]
    exact hh
/-- A slice that is empty, or lies apart of a machine. -/
def FarV (w : World) (v : Value) (n : Nat) (T : Nat → Nat) : Prop := n = 0 ∨ ∀ g, v.ownBlock = some g → g < w.heap.size ∧ T g = 0
theorem FarV.of {T : Nat → Nat} {w w' : World} {b n : Nat} {M : MS} {v : Value} {xs : List Value} (ho : Ux.Own w' 2 v n xs) (hf : From w.heap.size v) (hM : MR T w b M) : FarV w' v n T := by
  by_cases h0 : n = 0
  · exact .inl h0
  refine .inr fun g hg => ⟨ho.lt (by omega) (by decide) hg, ?_⟩
  have h1 := hf g hg
  rcases Nat.eq_zero_or_pos (T g) with h | h
  · exact h
  · have := (hM.lt g (by omega)).1; omega
theorem FarV.size {O : Nat → Prop} {w w' : World} {v : Value} {n : Nat} {T : Nat → Nat} (h : FarV w v n T) (m : Mod O w w') : FarV w' v n T := h.imp id fun h g hg => ⟨Nat.lt_of_lt_of_le (h g hg).1 (Mod.size m), (h g hg).2⟩
theorem Sl.farMod {w w' : World} {v : Value} {n : Nat} {xs : List Value} {T : Nat → Nat} (h : Sl w v 2 n xs) (hF : FarV w v n T) (m : Mod (Fp T) w w') : Sl w' v 2 n xs := by
  rcases hF with h0 | hF
  · obtain ⟨ao, cap, e, h1, h2, _⟩ := h
    exact ⟨ao, cap, e, h1, h2, .inl h0⟩
  · exact h.mod m fun a l c e => by
      have := hF a.block (by rw [e]; rfl)
      exact fun hk => hk this.2
theorem long_form {w : World} {v : Value} {n : Nat} {xs : List Value} (h : Ux.Own w 1 v n xs) : v = .slice none 0 0 ∨ ∃ a c, v = .slice (some a) n c := by
  rcases h.2 with ⟨e, _⟩ | ⟨g, cap, e, _⟩
  · exact .inl e
  · exact .inr ⟨_, _, e⟩
end Go.Proofs.S
end
