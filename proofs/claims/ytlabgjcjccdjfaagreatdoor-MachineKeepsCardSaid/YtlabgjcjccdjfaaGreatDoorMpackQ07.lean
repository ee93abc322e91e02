/- Steps of the proof, packed by program: McA2 UxMapF UxSw McA3. -/
import Derived.Test.YtlabgjcjccdjfaaGreatDoorRows
import Derived.Test.YtlabgjcjccdjfaaGreatDoorMpackQ01
import Derived.Test.YtlabgjcjccdjfaaGreatDoorMpackQ02
import Derived.Test.YtlabgjcjccdjfaaGreatDoorMpackQ06
set_option linter.unusedVariables false
set_option linter.unusedSimpArgs false
set_option linter.unnecessarySimpa false
section
set_option linter.unusedSimpArgs false
set_option linter.unusedVariables false
namespace Go.Proofs.N
open Go Go.Ux Go.Ux.Mach Go.Proofs
theorem ca104 : callable Tryz.prog 104 = true := by kernel_rfl
theorem ca105 : callable Tryz.prog 105 = true := by kernel_rfl
theorem ca106 : callable Tryz.prog 106 = true := by kernel_rfl
theorem ca108 : callable Tryz.prog 108 = true := by kernel_rfl
theorem ca109 : callable Tryz.prog 109 = true := by kernel_rfl
theorem ca110 : callable Tryz.prog 110 = true := by kernel_rfl
theorem ca111 : callable Tryz.prog 111 = true := by kernel_rfl
theorem ca112 : callable Tryz.prog 112 = true := by kernel_rfl
theorem ca115 : callable Tryz.prog 115 = true := by kernel_rfl
theorem ca117 : callable Tryz.prog 117 = true := by kernel_rfl
theorem ca118 : callable Tryz.prog 118 = true := by kernel_rfl
theorem ca119 : callable Tryz.prog 119 = true := by kernel_rfl
theorem ca120 : callable Tryz.prog 120 = true := by kernel_rfl
theorem ca121 : callable Tryz.prog 121 = true := by kernel_rfl
theorem ca122 : callable Tryz.prog 122 = true := by kernel_rfl
theorem ca123 : callable Tryz.prog 123 = true := by kernel_rfl
theorem ag178 : isAggT Tryz.prog 178 = some false := by kernel_rfl
theorem ca74 : callable Tryz.prog 74 = true := by kernel_rfl
theorem ca129 : callable Tryz.prog 129 = true := by kernel_rfl
theorem ca130 : callable Tryz.prog 130 = true := by kernel_rfl
theorem ca131 : callable Tryz.prog 131 = true := by kernel_rfl
def FunOk (w : World) (fv : Value) (F : BitVec 64 → BitVec 64 → BitVec 64) : Prop :=
  ∃ g cs, fv = .func (.func g) #[] cs ∧ callable Tryz.prog g = true ∧ ∀ w', Ext w w' → ∀ x y, CallsR Tryz.prog g (U64 x :: U64 y :: cs.toList).toArray w' (fun v w'' => v = U64 (F x y) ∧ Ext w' w'')
theorem FunOk.ext {w w' : World} {fv : Value} {F : BitVec 64 → BitVec 64 → BitVec 64} (h : FunOk w fv F) (m : Ext w w') : FunOk w' fv F := by
  obtain ⟨g, cs, e, hc, h⟩ := h
  exact ⟨g, cs, e, hc, fun w2 m2 => h w2 (m.trans m2)⟩
theorem FunOk.one {w : World} {fv : Value} {F : BitVec 64 → BitVec 64 → BitVec 64} (h : FunOk w fv F) : fv.oneCell' = true := by obtain ⟨g, cs, rfl, _⟩ := h; rfl
theorem add_fun (w : World) : FunOk w (.func (.func 104) #[] #[]) (fun x y => x + y) := ⟨104, #[], rfl, ca104, fun w' _ x y => add_spec x y w'⟩
theorem sub_fun (w : World) : FunOk w (.func (.func 105) #[] #[]) (fun x y => x - y) := ⟨105, #[], rfl, ca105, fun w' _ x y => sub_spec x y w'⟩
theorem slt_fun (w : World) : FunOk w (.func (.func 106) #[] #[]) (fun x y => bitW (BitVec.slt x y)) := ⟨106, #[], rfl, ca106, fun w' _ x y => slt_spec x y w'⟩
theorem sltu_fun (w : World) : FunOk w (.func (.func 108) #[] #[]) (fun x y => bitW (BitVec.ult x y)) := ⟨108, #[], rfl, ca108, fun w' _ x y => sltu_spec x y w'⟩
theorem xor_fun (w : World) : FunOk w (.func (.func 109) #[] #[]) (fun x y => x ^^^ y) := ⟨109, #[], rfl, ca109, fun w' _ x y => xor_spec x y w'⟩
theorem or_fun (w : World) : FunOk w (.func (.func 110) #[] #[]) (fun x y => x ||| y) := ⟨110, #[], rfl, ca110, fun w' _ x y => or_spec x y w'⟩
theorem and_fun (w : World) : FunOk w (.func (.func 111) #[] #[]) (fun x y => x &&& y) := ⟨111, #[], rfl, ca111, fun w' _ x y => and_spec x y w'⟩
theorem mul_fun (w : World) : FunOk w (.func (.func 112) #[] #[]) (fun x y => x * y) := ⟨112, #[], rfl, ca112, fun w' _ x y => mul_spec x y w'⟩
theorem sll_fun (w : World) : FunOk w (.func (.func 115) #[] #[]) sllW := ⟨115, #[], rfl, ca115, fun w' _ x y => sll_spec x y w'⟩
theorem srl_fun (w : World) : FunOk w (.func (.func 117) #[] #[]) srlW := ⟨117, #[], rfl, ca117, fun w' _ x y => srl_spec x y w'⟩
theorem sra_fun (w : World) : FunOk w (.func (.func 118) #[] #[]) sraW := ⟨118, #[], rfl, ca118, fun w' _ x y => sra_spec x y w'⟩
theorem div_fun (w : World) : FunOk w (.func (.func 119) #[] #[]) divW := ⟨119, #[], rfl, ca119, fun w' _ x y => div_spec x y w'⟩
theorem divu_fun (w : World) : FunOk w (.func (.func 120) #[] #[]) divuW := ⟨120, #[], rfl, ca120, fun w' _ x y => divu_spec x y w'⟩
theorem rem_fun (w : World) : FunOk w (.func (.func 121) #[] #[]) remW := ⟨121, #[], rfl, ca121, fun w' _ x y => rem_spec x y w'⟩
theorem remu_fun (w : World) : FunOk w (.func (.func 122) #[] #[]) remuW := ⟨122, #[], rfl, ca122, fun w' _ x y => remu_spec x y w'⟩
theorem mulh_fun (w : World) : FunOk w (.func (.func 123) #[] #[]) mulhW := ⟨123, #[], rfl, ca123, fun w' _ x y => mulh_spec x y w'⟩
theorem mulhsu_fun (w : World) : FunOk w (.func (.func 124) #[] #[]) mulhsuW := ⟨124, #[], rfl, ca124, fun w' _ x y => mulhsu_spec x y w'⟩
theorem mulhu_fun (w : World) : FunOk w (.func (.func 125) #[] #[]) hiW := ⟨125, #[], rfl, ca125, fun w' _ x y => mulhu_spec x y w'⟩
theorem signed1_spec (bf : Nat) (fv : Value) (F : BitVec 64 → BitVec 64 → BitVec 64) (x y : BitVec 64) (w : World) (hB : Blk w bf #[fv] 178) (hF : FunOk w fv F) : CallsR Tryz.prog 129 #[U64 (x), U64 (y), ptr bf 0] w (fun v w' => v = U64 (signedF F x y) ∧ Ext w w') := by
  obtain ⟨g, cs, rfl, hcal, hcl⟩ := hF
  refine callsR_of Tryz.func129 rfl rfl rfl ?_
  refine WC.seq (WC.region (WL.assign (v := U64 (0#64)) rfl rfl (WL.nil (WC.seq (WC.draw (fun w_ => Ext w w_) 8 rfl mixed ?_)))))
  intro wd_1 ed_1
  have R1 : Ext w wd_1 := Mod.trans (Mod.refl _ _) (ed_1)
  have E2 : Ext w wd_1 := Mod.trans (Mod.refl _ _) (ed_1)
  refine WA.take (i := 0) (m' := 1) (v := .func (.func g) #[] cs) rfl rfl rfl rfl (by kernel_rfl) rfl (fun _ _ _ h => h) (fun wx hS => ?_) (R1) ?_
  · have B4 := (hB).ext (hS)
    exact WL.load1 rfl ag178 (B4.cell (j := 0) rfl) rfl (WL.nil ⟨rfl, rfl, rfl⟩)
  refine WA.take (i := 1) (m' := 3) (v := U64 (x)) rfl rfl rfl rfl (by kernel_rfl) rfl (fun _ _ _ h => h) (fun wx hS => ?_) (R1) ?_
  · exact WL.move (v := U64 (x)) rfl rfl (WL.nil ⟨rfl, rfl, rfl⟩)
  refine WA.take (i := 3) (m' := 11) (v := U64 (y)) rfl rfl rfl rfl (by kernel_rfl) rfl (fun _ _ _ h => h) (fun wx hS => ?_) (R1) ?_
  · exact WL.move (v := U64 (y)) rfl rfl (WL.nil ⟨rfl, rfl, rfl⟩)
  refine WA.one (i := 2) (m' := 15) (by kernel_rfl) rfl rfl ?_
  refine WL.call ca74 (rfl) rfl (sign_spec (x) 32 _ (by decide)) ?_
  rintro _ wg8 ⟨rfl, eg8⟩
  have R7 : Ext w wg8 := Mod.trans (R1) (eg8)
  have E8 : Ext w wg8 := Mod.trans (E2) (eg8)
  refine WL.behind (R7) ?_
  refine WA.one (i := 4) (m' := 31) (by kernel_rfl) rfl rfl ?_
  refine WL.call ca74 (rfl) rfl (sign_spec (y) 32 _ (by decide)) ?_
  rintro _ wg10 ⟨rfl, eg10⟩
  have R9 : Ext w wg10 := Mod.trans (R7) (eg10)
  have E10 : Ext w wg10 := Mod.trans (E8) (eg10)
  refine WL.behind (R9) ?_
  refine WA.one (i := 5) (m' := 63) (by kernel_rfl) rfl rfl ?_
  refine WL.callV (fs := #[]) (cs := cs) rfl hcal rfl rfl (hcl _ (E10) (signW x 32) (signW y 32)) ?_
  rintro _ wc11 ⟨rfl, ec11⟩
  have R11 : Ext w wc11 := Mod.trans (R9) (ec11)
  have E12 : Ext w wc11 := Mod.trans (E10) (ec11)
  refine WL.behind (R11) ?_
  refine WA.one (i := 6) (m' := 127) (by kernel_rfl) rfl rfl ?_
  refine WL.call ca74 (rfl) rfl (sign_spec (F (signW x 32) (signW y 32)) 32 _ (by decide)) ?_
  rintro _ wg12 ⟨rfl, eg12⟩
  have R13 : Ext w wg12 := Mod.trans (R11) (eg12)
  have E14 : Ext w wg12 := Mod.trans (E12) (eg12)
  refine WL.behind (R13) ?_
  refine WA.take (i := 7) (m' := 255) (v := U64 (signW (F (signW x 32) (signW y 32)) 32)) rfl rfl rfl rfl (by kernel_rfl) rfl (fun _ _ _ h => h) (fun wx hS => ?_) (R13) ?_
  · exact WL.assign (v := U64 (signW (F (signW x 32) (signW y 32)) 32)) rfl rfl (WL.nil ⟨rfl, rfl, rfl⟩)
  refine WA.done (by kernel_rfl) ?_
  refine WC.ret ?_
  exact ⟨_, Res.one (v := U64 (signW (F (signW x 32) (signW y 32)) 32)) rfl rfl, rfl, E14⟩
theorem moved1_spec (bf : Nat) (fv : Value) (F : BitVec 64 → BitVec 64 → BitVec 64) (x y : BitVec 64) (w : World) (hB : Blk w bf #[fv] 178) (hF : FunOk w fv F) : CallsR Tryz.prog 130 #[U64 (x), U64 (y), ptr bf 0] w (fun v w' => v = U64 (movedF F x y) ∧ Ext w w') := by
  obtain ⟨g, cs, rfl, hcal, hcl⟩ := hF
  refine callsR_of Tryz.func130 rfl rfl rfl ?_
  refine WC.seq (WC.region (WL.assign (v := U64 (0#64)) rfl rfl (WL.nil (WC.seq (WC.region (WL.load1 rfl ag178 (hB.cell (j := 0) rfl) rfl (WL.move (v := U64 (x)) rfl rfl (WL.move (v := U64 (y)) rfl rfl (WL.bin rfl (vy := U64 (31#64)) rfl rfl (BinR.andU64) ?_)))))))))
  refine WL.callV (fs := #[]) (cs := cs) rfl hcal rfl rfl (hcl _ (Mod.refl _ _) (x) (y &&& 31#64)) ?_
  rintro _ wc10 ⟨rfl, ec10⟩
  have E1 : Ext w wc10 := Mod.trans (Mod.refl _ _) (ec10)
  refine WL.assign (v := U64 (F (x) (y &&& 31#64))) rfl rfl (WL.nil (WC.ret ?_))
  exact ⟨_, Res.one (v := U64 (F (x) (y &&& 31#64))) rfl rfl, rfl, E1⟩
theorem unsigned1_spec (bf : Nat) (fv : Value) (F : BitVec 64 → BitVec 64 → BitVec 64) (x y : BitVec 64) (w : World) (hB : Blk w bf #[fv] 178) (hF : FunOk w fv F) : CallsR Tryz.prog 131 #[U64 (x), U64 (y), ptr bf 0] w (fun v w' => v = U64 (unsignedF F x y) ∧ Ext w w') := by
  obtain ⟨g, cs, rfl, hcal, hcl⟩ := hF
  refine callsR_of Tryz.func131 rfl rfl rfl ?_
  refine WC.seq (WC.region (WL.assign (v := U64 (0#64)) rfl rfl (WL.nil (WC.seq (WC.region (WL.load1 rfl ag178 (hB.cell (j := 0) rfl) rfl (WL.move (v := U64 (x)) rfl rfl (WL.bin rfl (vy := U64 (4294967295#64)) rfl rfl (BinR.andU64) (WL.move (v := U64 (y)) rfl rfl ?_)))))))))
  refine WL.bin rfl (vy := U64 (4294967295#64)) rfl rfl (BinR.andU64) (WL.callV (fs := #[]) (cs := cs) rfl hcal rfl rfl (hcl _ (Mod.refl _ _) (x &&& 4294967295#64) (y &&& 4294967295#64)) ?_)
  rintro _ wc11 ⟨rfl, ec11⟩
  have E1 : Ext w wc11 := Mod.trans (Mod.refl _ _) (ec11)
  refine WL.call ca74 (rfl) rfl (sign_spec (F (x &&& 4294967295#64) (y &&& 4294967295#64)) 32 _ (by decide)) ?_
  rintro _ wg12 ⟨rfl, eg12⟩
  have E2 : Ext w wg12 := Mod.trans (E1) (eg12)
  refine WL.assign (v := U64 (signW (F (x &&& 4294967295#64) (y &&& 4294967295#64)) 32)) rfl rfl (WL.nil (WC.ret ?_))
  exact ⟨_, Res.one (v := U64 (signW (F (x &&& 4294967295#64) (y &&& 4294967295#64)) 32)) rfl rfl, rfl, E2⟩
theorem signed0 (fv : Value) (hv : fv.oneCell' = true) (w : World) : CallsR Tryz.prog 113 #[fv] w (fun v w' => ∃ bf, v = .func (.func 129) #[] #[ptr bf 0] ∧ Blk w' bf #[fv] 178 ∧ Ext w w') := by
  refine callsR_of Tryz.func113 rfl rfl rfl ?_
  refine WC.seq (WC.region (WL.box (v := fv) rfl rfl ?_))
  intro b1 w1 n1
  have E1 : Ext w w1 := Mod.trans (Mod.refl _ _) (n1.ext)
  have n1b : Blk w1 b1 #[fv] 178 := by have h := n1.blk; rwa [cells_of_one hv] at h
  refine WL.assign (v := .nilFunc) rfl rfl (WL.nil (WC.seq (WC.region (WL.makeFunc (vs := []) (us := [ptr b1 0]) rfl rfl rfl (WL.assign (v := .func (.func 129) #[] #[ptr b1 0]) rfl rfl (WL.nil (WC.ret ?_)))))))
  exact ⟨_, Res.one (v := .func (.func 129) #[] #[ptr b1 0]) rfl rfl, b1, rfl, n1b, E1⟩
theorem signed_spec (fv : Value) (F : BitVec 64 → BitVec 64 → BitVec 64) (w : World) (hF : FunOk w fv F) : CallsR Tryz.prog 113 #[fv] w (fun v w' => FunOk w' v (signedF F) ∧ Ext w w') := by
  refine (signed0 fv hF.one w).mono ?_
  rintro v w' ⟨bf, rfl, hB, he⟩
  exact ⟨⟨129, #[ptr bf 0], rfl, ca129, fun w2 m x y => signed1_spec bf fv F x y w2 (hB.ext m) ((hF.ext he).ext m)⟩, he⟩
theorem moved0 (fv : Value) (hv : fv.oneCell' = true) (w : World) : CallsR Tryz.prog 114 #[fv] w (fun v w' => ∃ bf, v = .func (.func 130) #[] #[ptr bf 0] ∧ Blk w' bf #[fv] 178 ∧ Ext w w') := by
  refine callsR_of Tryz.func114 rfl rfl rfl ?_
  refine WC.seq (WC.region (WL.box (v := fv) rfl rfl ?_))
  intro b1 w1 n1
  have E1 : Ext w w1 := Mod.trans (Mod.refl _ _) (n1.ext)
  have n1b : Blk w1 b1 #[fv] 178 := by have h := n1.blk; rwa [cells_of_one hv] at h
  refine WL.assign (v := .nilFunc) rfl rfl (WL.nil (WC.seq (WC.region (WL.makeFunc (vs := []) (us := [ptr b1 0]) rfl rfl rfl (WL.assign (v := .func (.func 130) #[] #[ptr b1 0]) rfl rfl (WL.nil (WC.ret ?_)))))))
  exact ⟨_, Res.one (v := .func (.func 130) #[] #[ptr b1 0]) rfl rfl, b1, rfl, n1b, E1⟩
theorem moved_spec (fv : Value) (F : BitVec 64 → BitVec 64 → BitVec 64) (w : World) (hF : FunOk w fv F) : CallsR Tryz.prog 114 #[fv] w (fun v w' => FunOk w' v (movedF F) ∧ Ext w w') := by
  refine (moved0 fv hF.one w).mono ?_
  rintro v w' ⟨bf, rfl, hB, he⟩
  exact ⟨⟨130, #[ptr bf 0], rfl, ca130, fun w2 m x y => moved1_spec bf fv F x y w2 (hB.ext m) ((hF.ext he).ext m)⟩, he⟩
theorem unsigned0 (fv : Value) (hv : fv.oneCell' = true) (w : World) : CallsR Tryz.prog 116 #[fv] w (fun v w' => ∃ bf, v = .func (.func 131) #[] #[ptr bf 0] ∧ Blk w' bf #[fv] 178 ∧ Ext w w') := by
  refine callsR_of Tryz.func116 rfl rfl rfl ?_
  refine WC.seq (WC.region (WL.box (v := fv) rfl rfl ?_))
  intro b1 w1 n1
  have E1 : Ext w w1 := Mod.trans (Mod.refl _ _) (n1.ext)
  have n1b : Blk w1 b1 #[fv] 178 := by have h := n1.blk; rwa [cells_of_one hv] at h
  refine WL.assign (v := .nilFunc) rfl rfl (WL.nil (WC.seq (WC.region (WL.makeFunc (vs := []) (us := [ptr b1 0]) rfl rfl rfl (WL.assign (v := .func (.func 131) #[] #[ptr b1 0]) rfl rfl (WL.nil (WC.ret ?_)))))))
  exact ⟨_, Res.one (v := .func (.func 131) #[] #[ptr b1 0]) rfl rfl, b1, rfl, n1b, E1⟩
theorem unsigned_spec (fv : Value) (F : BitVec 64 → BitVec 64 → BitVec 64) (w : World) (hF : FunOk w fv F) : CallsR Tryz.prog 116 #[fv] w (fun v w' => FunOk w' v (unsignedF F) ∧ Ext w w') := by
  refine (unsigned0 fv hF.one w).mono ?_
  rintro v w' ⟨bf, rfl, hB, he⟩
  exact ⟨⟨131, #[ptr bf 0], rfl, ca131, fun w2 m x y => unsigned1_spec bf fv F x y w2 (hB.ext m) ((hF.ext he).ext m)⟩, he⟩
end Go.Proofs.N
end
section
namespace Go.Ux
open Go
def getF (l : List (Nat × Nat)) (k : Nat) : Option Nat := match l with
  | [] => none
  | (a, g) :: r => if a == k then some g else getF r k
abbrev KB (k : Nat) : Value := .int .u8 ((k : Nat) : Int)
abbrev FV (g : Nat) : Value := .func (.func g) #[] #[]
def MapF (w : World) (r : Nat) (l : List (Nat × Nat)) : Prop :=
  ∃ es clock, w.heap[r]? = some (.map es clock) ∧ es.toList.map (fun e => (e.key, e.val)) = l.map fun p => (KB p.1, FV p.2)
theorem findNow_F (k : Nat) : ∀ (es : List MapEntry) (l : List (Nat × Nat)) (i : Nat), es.map (fun e => (e.key, e.val)) = l.map (fun p => (KB p.1, FV p.2)) →
    (Instr.findNow (.int .u8) (KB k) es i = some none ∧ getF l k = none) ∨ ∃ j g, Instr.findNow (.int .u8) (KB k) es i = some (some (j, FV g)) ∧ getF l k = some g
  | [], [], _, _ => .inl ⟨rfl, rfl⟩
  | [], _ :: _, _, h => by cases h
  | _ :: _, [], _, h => by cases h
  | e :: es, (a, c) :: l, i, h => by
    simp only [List.map_cons, List.cons.injEq, Prod.mk.injEq] at h
    obtain ⟨⟨hk, hv⟩, hr⟩ := h
    have hs : Instr.sameNow (.int .u8) (KB k) e.key = some (k == a) := by
      rw [hk]
      have : (((k : Nat) : Int) == ((a : Nat) : Int)) = (k == a) := by
        rw [Bool.eq_iff_iff, beq_iff_eq, beq_iff_eq]; omega
      simp only [Instr.sameNow, if_true, this]
    by_cases hka : k = a
    · subst hka
      exact .inr ⟨i, c, by simp only [Instr.findNow, hs, beq_self_eq_true, hv], by simp [getF]⟩
    · have hne : (a == k) = false := by rw [beq_eq_false_iff_ne]; exact fun e => hka e.symm
      have hne' : (k == a) = false := by rw [beq_eq_false_iff_ne]; exact hka
      have hf : Instr.findNow (.int .u8) (KB k) (e :: es) i = Instr.findNow (.int .u8) (KB k) es (i + 1) := by simp only [Instr.findNow, hs, hne']
      rcases findNow_F k es l (i + 1) hr with ⟨h1, h2⟩ | ⟨j, g, h1, h2⟩
      · exact .inl ⟨hf.trans h1, by simp [getF, hne, h2]⟩
      · exact .inr ⟨j, g, hf.trans h1, by simp [getF, hne, h2]⟩
section ops
variable {P : Program} {ops : Array Oper} {l : List Oper} {n : Nat} {f : Fr} {w : World} {Q : Exit → Fr → World → Prop}
variable {d : Nat} {ty : TypeId} {pos : String} {aft : Array Edge}
theorem isKey_KB (k : Nat) : MapKept.IsKey (.int .u8) (KB k) := by simp [MapKept.IsKey]
theorem WL.lookupF {t kt et r k : Nat} {x y : Operand} {ls : List (Nat × Nat)} {v : Value} (ht : P.underlying t = some (.map kt et)) (hk : P.underlying kt = some (.int .u8)) (hz : ∀ w : World, (zeroValue et).run P w = .ok .nilFunc w)
    (hx : ev f x = .map (some r)) (hy : ev f y = KB k) (hm : MapF w r ls) (hv : (match getF ls k with | some g => FV g | none => .nilFunc) = v) (hd : decide (d < n) = true) (kk : WL P ops l n (upd f d v) w Q) :
    WL P ops (⟨some d, .lookup t x y false, ty, pos, aft, none⟩ :: l) n f w Q := by
  obtain ⟨es, clock, hb, he⟩ := hm
  refine WL.val rfl hd (v := v) (w' := w) ?_ kk
  have hc := MapKept.run_checkKey (P := P) (w := w) hk (isKey_KB k) es.isEmpty 9999
  have hrun : (Instr.lookup t (.map (some r)) (KB k) false).run P w = .ok v w := by
    rcases findNow_F k es.toList ls 0 he with ⟨h1, h2⟩ | ⟨j, g, h1, h2⟩
    · rw [h2] at hv; subst hv
      simp [Instr.lookup, run_underlying ht, MapKept.run_getObj_map hb, hc, MapKept.run_findKey hk h1, hz, Result.andThen]
    · rw [h2] at hv; subst hv
      simp [Instr.lookup, run_underlying ht, MapKept.run_getObj_map hb, hc, MapKept.run_findKey hk h1, Result.andThen]
  simp only [execOp, hx, hy]
  rw [Sem.run_bind, hrun]; simp [Result.andThen]
theorem WL.insertF {t kt et r k g : Nat} {x y z : Operand} {ls : List (Nat × Nat)} (ht : P.underlying t = some (.map kt et)) (hk : P.underlying kt = some (.int .u8))
    (hx : ev f x = .map (some r)) (hy : ev f y = KB k) (hz : ev f z = FV g) (hm : MapF w r ls) (hn : getF ls k = none) (kk : ∀ w', MapF w' r (ls ++ [(k, g)]) → Mod (· = r) w w' → WL P ops l n f w' Q) :
    WL P ops (⟨none, .insert t x y z, ty, pos, aft, none⟩ :: l) n f w Q := by
  obtain ⟨es, clock, hb, he⟩ := hm
  have hc := MapKept.run_checkKey (P := P) (w := w) hk (isKey_KB k) false 9999
  rcases findNow_F k es.toList ls 0 he with ⟨h1, _⟩ | ⟨j, g', h1, h2⟩
  · refine WL.skp (w' := { w with heap := w.heap.setIfInBounds r (.map (es.push { key := KB k, val := FV g, born := clock }) (clock + 1)) }) rfl rfl ?_
      (kk _ ⟨_, _, (MapKept.heap_set hb).1, by simp [he]⟩ (setObj_mod hb))
    have : (Instr.mapUpdate t (.map (some r)) (KB k) (FV g)).run P w = .ok () { w with heap := w.heap.setIfInBounds r (.map (es.push { key := KB k, val := FV g, born := clock }) (clock + 1)) } := by
      simp [Instr.mapUpdate, run_underlying ht, MapKept.run_getObj_map hb, hc, MapKept.run_findKey hk h1, MapKept.run_setObj_map _ hb, Result.andThen]
    simp only [execOp, hx, hy, hz]
    rw [Sem.run_bind, this]; simp [Result.andThen]
  · rw [hn] at h2; cases h2
theorem WL.makeMapF {t : Nat} (hd : decide (d < n) = true) (kk : ∀ r w', MapF w' r [] → Ext w w' → r = w.heap.size → WL P ops l n (upd f d (.map (some r))) w' Q) :
    WL P ops (⟨some d, .makeMap t none, ty, pos, aft, none⟩ :: l) n f w Q := by
  refine WL.val rfl hd (v := .map (some w.heap.size)) (w' := w.alloc (.map #[] 0)) ?_ (kk _ _ ⟨#[], 0, heap_alloc_new w _, rfl⟩ (alloc_ext w _) rfl)
  simp only [execOp, Option.map_none]
  rw [Sem.run_bind, run_makeMap_plain]; simp [Result.andThen]
end ops
end Go.Ux
end
section
namespace Go.Ux
open Go
theorem WC.neU {P : Program} {n : Nat} {f : Fr} {w : World} {Q : Exit → Fr → World → Prop} {id d d' : Nat} {t u ty ty' : TypeId} {pos pos' : String} {aft aft' : Array Edge} {a b e ce : Operand} {z c : BitVec 8} {x y : Code}
    (ha : ev f a = U8 z) (hb : ev f b = U8 c) (hd : decide (d < n) = true) (hd' : decide (d' < n) = true) (he : ev (upd f d (.bool false)) e = .bool false) (hc : ev (upd (upd f d (.bool false)) d' (.bool false)) ce = .bool false) (hne : (z == c) = false)
    (k : WC P y n (upd (upd f d (.bool false)) d' (.bool false)) w Q) :
    WC P (.region id [(⟨some d, .binOp .eql t a b u, ty, pos, aft, none⟩ : Oper), ⟨some d', .assign e, ty', pos', aft', none⟩].toArray false) n f w (Then n P (.cond ce x y) Q) :=
  WC.region (WL.bin (v := .bool false) ha hb hd (BinR.toB (BinR.eqlU8) hne) (WL.assign (v := .bool false) he hd' (WL.nil (WC.condF hc k))))
end Go.Ux
end
section
set_option linter.unusedSimpArgs false
set_option linter.unusedVariables false
namespace Go.Proofs.N
open Go Go.Ux Go.Ux.Mach Go.Proofs
theorem ca88 : callable Tryz.prog 88 = true := by kernel_rfl
theorem ca113 : callable Tryz.prog 113 = true := by kernel_rfl
theorem ca114 : callable Tryz.prog 114 = true := by kernel_rfl
theorem ca116 : callable Tryz.prog 116 = true := by kernel_rfl
theorem zf178 : ∀ w : World, (zeroValue 178).run Tryz.prog w = .ok .nilFunc w := fun _ => by kernel_rfl
def lookM (k : Nat) : Value := match getF [(33, 115), (28, 115), (37, 117), (29, 117), (38, 118), (30, 118), (51, 123), (52, 124), (53, 125), (54, 119), (55, 120), (56, 121), (57, 122)] k with | some g => FV g | none => .nilFunc
theorem reckons_z (z : BitVec 8) (hz : ∀ c ∈ [22#8, 23#8, 24#8, 25#8, 26#8, 27#8, 31#8, 32#8, 34#8, 35#8, 36#8, 39#8, 40#8, 41#8, 42#8, 43#8, 44#8, 45#8, 46#8, 47#8, 48#8, 49#8, 50#8, 58#8, 59#8, 60#8, 61#8, 62#8], (z == c) = false) (w : World) : CallsR Tryz.prog 88 #[U8 (z)] w (fun v w' => v = lookM z.toNat ∧ Ext w w') := by
  refine callsR_of Tryz.func88 rfl rfl rfl ?_
  refine WC.seq (WC.region (WL.assign (v := .nilFunc) rfl rfl (WL.nil (WC.seq (WC.seq (WC.region (WL.move (v := U8 (z)) rfl rfl (WL.nil (WC.block ?_)))))))))
  refine WC.seq (WC.seq (WC.neU (c := 31#8) rfl rfl rfl rfl rfl rfl (hz _ (by decide)) (WC.neU (c := 22#8) rfl rfl rfl rfl rfl rfl (hz _ (by decide)) (WC.seq (WC.neU (c := 32#8) rfl rfl rfl rfl rfl rfl (hz _ (by decide)) (WC.seq (WC.seq (WC.neU (c := 34#8) rfl rfl rfl rfl rfl rfl (hz _ (by decide)) (WC.neU (c := 23#8) rfl rfl rfl rfl rfl rfl (hz _ (by decide)) ?_)))))))))
  refine WC.seq (WC.seq (WC.neU (c := 35#8) rfl rfl rfl rfl rfl rfl (hz _ (by decide)) (WC.neU (c := 24#8) rfl rfl rfl rfl rfl rfl (hz _ (by decide)) (WC.seq (WC.seq (WC.neU (c := 36#8) rfl rfl rfl rfl rfl rfl (hz _ (by decide)) (WC.neU (c := 25#8) rfl rfl rfl rfl rfl rfl (hz _ (by decide)) (WC.seq (WC.seq ?_)))))))))
  refine WC.neU (c := 39#8) rfl rfl rfl rfl rfl rfl (hz _ (by decide)) (WC.neU (c := 26#8) rfl rfl rfl rfl rfl rfl (hz _ (by decide)) (WC.seq (WC.seq (WC.neU (c := 40#8) rfl rfl rfl rfl rfl rfl (hz _ (by decide)) (WC.neU (c := 27#8) rfl rfl rfl rfl rfl rfl (hz _ (by decide)) (WC.seq (WC.neU (c := 50#8) rfl rfl rfl rfl rfl rfl (hz _ (by decide)) (WC.seq (WC.seq ?_)))))))))
  refine WC.neU (c := 45#8) rfl rfl rfl rfl rfl rfl (hz _ (by decide)) (WC.neU (c := 41#8) rfl rfl rfl rfl rfl rfl (hz _ (by decide)) (WC.seq (WC.neU (c := 46#8) rfl rfl rfl rfl rfl rfl (hz _ (by decide)) (WC.seq (WC.neU (c := 58#8) rfl rfl rfl rfl rfl rfl (hz _ (by decide)) (WC.seq (WC.seq (WC.neU (c := 47#8) rfl rfl rfl rfl rfl rfl (hz _ (by decide)) (WC.neU (c := 42#8) rfl rfl rfl rfl rfl rfl (hz _ (by decide)) ?_)))))))))
  refine WC.seq (WC.seq (WC.neU (c := 48#8) rfl rfl rfl rfl rfl rfl (hz _ (by decide)) (WC.neU (c := 43#8) rfl rfl rfl rfl rfl rfl (hz _ (by decide)) (WC.seq (WC.seq (WC.neU (c := 49#8) rfl rfl rfl rfl rfl rfl (hz _ (by decide)) (WC.neU (c := 44#8) rfl rfl rfl rfl rfl rfl (hz _ (by decide)) (WC.seq (WC.neU (c := 59#8) rfl rfl rfl rfl rfl rfl (hz _ (by decide)) ?_)))))))))
  refine WC.seq (WC.neU (c := 60#8) rfl rfl rfl rfl rfl rfl (hz _ (by decide)) (WC.seq (WC.neU (c := 61#8) rfl rfl rfl rfl rfl rfl (hz _ (by decide)) (WC.seq (WC.neU (c := 62#8) rfl rfl rfl rfl rfl rfl (hz _ (by decide)) (WC.skip (WC.seq (WC.region (WL.makeMapF rfl ?_)))))))))
  intro r wm hM0 e67 hr
  have hrw : w.heap.size ≤ r := by have := Mod.size (Mod.refl (fun _ => False) w); omega
  have E1 : Ext w wm := Mod.trans (Mod.refl _ _) (e67)
  refine WL.insertF (k := 33) (g := 115) (ls := []) Tryz.underlying204 Tryz.underlying5 rfl rfl rfl hM0 (by decide) ?_
  intro wi0 hM1 mi0
  have Ei0 : Ext w wi0 := Mod.then (E1) (mi0) (fun i hi (e : i = r) => absurd hi (by omega))
  refine WL.insertF (k := 28) (g := 115) (ls := [(33, 115)]) Tryz.underlying204 Tryz.underlying5 rfl rfl rfl hM1 (by decide) ?_
  intro wi1 hM2 mi1
  have Ei1 : Ext w wi1 := Mod.then (Ei0) (mi1) (fun i hi (e : i = r) => absurd hi (by omega))
  refine WL.insertF (k := 37) (g := 117) (ls := [(33, 115), (28, 115)]) Tryz.underlying204 Tryz.underlying5 rfl rfl rfl hM2 (by decide) ?_
  intro wi2 hM3 mi2
  have Ei2 : Ext w wi2 := Mod.then (Ei1) (mi2) (fun i hi (e : i = r) => absurd hi (by omega))
  refine WL.insertF (k := 29) (g := 117) (ls := [(33, 115), (28, 115), (37, 117)]) Tryz.underlying204 Tryz.underlying5 rfl rfl rfl hM3 (by decide) ?_
  intro wi3 hM4 mi3
  have Ei3 : Ext w wi3 := Mod.then (Ei2) (mi3) (fun i hi (e : i = r) => absurd hi (by omega))
  refine WL.insertF (k := 38) (g := 118) (ls := [(33, 115), (28, 115), (37, 117), (29, 117)]) Tryz.underlying204 Tryz.underlying5 rfl rfl rfl hM4 (by decide) ?_
  intro wi4 hM5 mi4
  have Ei4 : Ext w wi4 := Mod.then (Ei3) (mi4) (fun i hi (e : i = r) => absurd hi (by omega))
  refine WL.insertF (k := 30) (g := 118) (ls := [(33, 115), (28, 115), (37, 117), (29, 117), (38, 118)]) Tryz.underlying204 Tryz.underlying5 rfl rfl rfl hM5 (by decide) ?_
  intro wi5 hM6 mi5
  have Ei5 : Ext w wi5 := Mod.then (Ei4) (mi5) (fun i hi (e : i = r) => absurd hi (by omega))
  refine WL.insertF (k := 51) (g := 123) (ls := [(33, 115), (28, 115), (37, 117), (29, 117), (38, 118), (30, 118)]) Tryz.underlying204 Tryz.underlying5 rfl rfl rfl hM6 (by decide) ?_
  intro wi6 hM7 mi6
  have Ei6 : Ext w wi6 := Mod.then (Ei5) (mi6) (fun i hi (e : i = r) => absurd hi (by omega))
  refine WL.insertF (k := 52) (g := 124) (ls := [(33, 115), (28, 115), (37, 117), (29, 117), (38, 118), (30, 118), (51, 123)]) Tryz.underlying204 Tryz.underlying5 rfl rfl rfl hM7 (by decide) ?_
  intro wi7 hM8 mi7
  have Ei7 : Ext w wi7 := Mod.then (Ei6) (mi7) (fun i hi (e : i = r) => absurd hi (by omega))
  refine WL.insertF (k := 53) (g := 125) (ls := [(33, 115), (28, 115), (37, 117), (29, 117), (38, 118), (30, 118), (51, 123), (52, 124)]) Tryz.underlying204 Tryz.underlying5 rfl rfl rfl hM8 (by decide) ?_
  intro wi8 hM9 mi8
  have Ei8 : Ext w wi8 := Mod.then (Ei7) (mi8) (fun i hi (e : i = r) => absurd hi (by omega))
  refine WL.insertF (k := 54) (g := 119) (ls := [(33, 115), (28, 115), (37, 117), (29, 117), (38, 118), (30, 118), (51, 123), (52, 124), (53, 125)]) Tryz.underlying204 Tryz.underlying5 rfl rfl rfl hM9 (by decide) ?_
  intro wi9 hM10 mi9
  have Ei9 : Ext w wi9 := Mod.then (Ei8) (mi9) (fun i hi (e : i = r) => absurd hi (by omega))
  refine WL.insertF (k := 55) (g := 120) (ls := [(33, 115), (28, 115), (37, 117), (29, 117), (38, 118), (30, 118), (51, 123), (52, 124), (53, 125), (54, 119)]) Tryz.underlying204 Tryz.underlying5 rfl rfl rfl hM10 (by decide) ?_
  intro wi10 hM11 mi10
  have Ei10 : Ext w wi10 := Mod.then (Ei9) (mi10) (fun i hi (e : i = r) => absurd hi (by omega))
  refine WL.insertF (k := 56) (g := 121) (ls := [(33, 115), (28, 115), (37, 117), (29, 117), (38, 118), (30, 118), (51, 123), (52, 124), (53, 125), (54, 119), (55, 120)]) Tryz.underlying204 Tryz.underlying5 rfl rfl rfl hM11 (by decide) ?_
  intro wi11 hM12 mi11
  have Ei11 : Ext w wi11 := Mod.then (Ei10) (mi11) (fun i hi (e : i = r) => absurd hi (by omega))
  refine WL.insertF (k := 57) (g := 122) (ls := [(33, 115), (28, 115), (37, 117), (29, 117), (38, 118), (30, 118), (51, 123), (52, 124), (53, 125), (54, 119), (55, 120), (56, 121)]) Tryz.underlying204 Tryz.underlying5 rfl rfl rfl hM12 (by decide) ?_
  intro wi12 hM13 mi12
  have Ei12 : Ext w wi12 := Mod.then (Ei11) (mi12) (fun i hi (e : i = r) => absurd hi (by omega))
  refine WL.move (v := .map (some r)) rfl rfl (WL.assign (v := .map (some r)) rfl rfl (WL.nil (WC.seq (WC.region (WL.move (v := .map (some r)) rfl rfl (WL.move (v := U8 (z)) rfl rfl (WL.lookupF (k := z.toNat) (ls := [(33, 115), (28, 115), (37, 117), (29, 117), (38, 118), (30, 118), (51, 123), (52, 124), (53, 125), (54, 119), (55, 120), (56, 121), (57, 122)]) (v := lookM z.toNat) Tryz.underlying204 Tryz.underlying5 zf178 rfl rfl hM13 rfl rfl (WL.assign (v := lookM z.toNat) rfl rfl (WL.nil ?_)))))))))
  refine WC.ret ?_
  exact ⟨_, Res.one (v := lookM z.toNat) rfl rfl, rfl, Ei12⟩
theorem reckons_31 (w : World) : CallsR Tryz.prog 88 #[U8 (31#8)] w (fun v w' => FunOk w' v (fun x y => x + y) ∧ Ext w w') := by
  refine callsR_of Tryz.func88 rfl rfl rfl ?_
  refine WC.seq (WC.region (WL.assign (v := .nilFunc) rfl rfl (WL.nil (WC.seq (WC.seq (WC.region (WL.move (v := U8 (31#8)) rfl rfl (WL.nil (WC.block ?_)))))))))
  refine WC.seq (WC.seq (WC.region (WL.bin (v := .bool (true)) rfl (vy := U8 (31#8)) rfl rfl (BinR.toB (BinR.eqlU8) (by decide)) (WL.assign (v := .bool (true)) rfl rfl (WL.nil (WC.condT rfl (WC.skip (WC.condT rfl (WC.seq ?_)))))))))
  refine WC.region (WL.assign (v := .func (.func 104) #[] #[]) rfl rfl (WL.nil (WC.ret ?_)))
  exact ⟨_, Res.one (v := .func (.func 104) #[] #[]) rfl rfl, add_fun _, Mod.refl _ _⟩
theorem reckons_32 (w : World) : CallsR Tryz.prog 88 #[U8 (32#8)] w (fun v w' => FunOk w' v (fun x y => x - y) ∧ Ext w w') := by
  refine callsR_of Tryz.func88 rfl rfl rfl ?_
  refine WC.seq (WC.region (WL.assign (v := .nilFunc) rfl rfl (WL.nil (WC.seq (WC.seq (WC.region (WL.move (v := U8 (32#8)) rfl rfl (WL.nil (WC.block ?_)))))))))
  refine WC.seq (WC.seq (WC.neU (c := 31#8) rfl rfl rfl rfl rfl rfl (by decide) (WC.neU (c := 22#8) rfl rfl rfl rfl rfl rfl (by decide) (WC.seq (WC.region (WL.bin (v := .bool (true)) rfl (vy := U8 (32#8)) rfl rfl (BinR.toB (BinR.eqlU8) (by decide)) (WL.assign (v := .bool (true)) rfl rfl (WL.nil (WC.condT rfl ?_)))))))))
  refine WC.seq (WC.region (WL.assign (v := .func (.func 105) #[] #[]) rfl rfl (WL.nil (WC.ret ?_))))
  exact ⟨_, Res.one (v := .func (.func 105) #[] #[]) rfl rfl, sub_fun _, Mod.refl _ _⟩
theorem reckons_50 (w : World) : CallsR Tryz.prog 88 #[U8 (50#8)] w (fun v w' => FunOk w' v (fun x y => x * y) ∧ Ext w w') := by
  refine callsR_of Tryz.func88 rfl rfl rfl ?_
  refine WC.seq (WC.region (WL.assign (v := .nilFunc) rfl rfl (WL.nil (WC.seq (WC.seq (WC.region (WL.move (v := U8 (50#8)) rfl rfl (WL.nil (WC.block ?_)))))))))
  refine WC.seq (WC.seq (WC.neU (c := 31#8) rfl rfl rfl rfl rfl rfl (by decide) (WC.neU (c := 22#8) rfl rfl rfl rfl rfl rfl (by decide) (WC.seq (WC.neU (c := 32#8) rfl rfl rfl rfl rfl rfl (by decide) (WC.seq (WC.seq (WC.neU (c := 34#8) rfl rfl rfl rfl rfl rfl (by decide) (WC.neU (c := 23#8) rfl rfl rfl rfl rfl rfl (by decide) ?_)))))))))
  refine WC.seq (WC.seq (WC.neU (c := 35#8) rfl rfl rfl rfl rfl rfl (by decide) (WC.neU (c := 24#8) rfl rfl rfl rfl rfl rfl (by decide) (WC.seq (WC.seq (WC.neU (c := 36#8) rfl rfl rfl rfl rfl rfl (by decide) (WC.neU (c := 25#8) rfl rfl rfl rfl rfl rfl (by decide) (WC.seq (WC.seq ?_)))))))))
  refine WC.neU (c := 39#8) rfl rfl rfl rfl rfl rfl (by decide) (WC.neU (c := 26#8) rfl rfl rfl rfl rfl rfl (by decide) (WC.seq (WC.seq (WC.neU (c := 40#8) rfl rfl rfl rfl rfl rfl (by decide) (WC.neU (c := 27#8) rfl rfl rfl rfl rfl rfl (by decide) (WC.seq (WC.region (WL.bin (v := .bool (true)) rfl (vy := U8 (50#8)) rfl rfl (BinR.toB (BinR.eqlU8) (by decide)) (WL.assign (v := .bool (true)) rfl rfl ?_)))))))))
  refine WL.nil (WC.condT rfl (WC.seq (WC.region (WL.assign (v := .func (.func 112) #[] #[]) rfl rfl (WL.nil (WC.ret ?_))))))
  exact ⟨_, Res.one (v := .func (.func 112) #[] #[]) rfl rfl, mul_fun _, Mod.refl _ _⟩
theorem reckons_11 (w : World) : CallsR Tryz.prog 88 #[U8 (11#8)] w (fun v w' => v = .nilFunc ∧ Ext w w') := (reckons_z (11#8) (by decide) w).mono fun _ _ h => ⟨h.1, h.2⟩
theorem reckons_12 (w : World) : CallsR Tryz.prog 88 #[U8 (12#8)] w (fun v w' => v = .nilFunc ∧ Ext w w') := (reckons_z (12#8) (by decide) w).mono fun _ _ h => ⟨h.1, h.2⟩
theorem reckons_13 (w : World) : CallsR Tryz.prog 88 #[U8 (13#8)] w (fun v w' => v = .nilFunc ∧ Ext w w') := (reckons_z (13#8) (by decide) w).mono fun _ _ h => ⟨h.1, h.2⟩
theorem reckons_14 (w : World) : CallsR Tryz.prog 88 #[U8 (14#8)] w (fun v w' => v = .nilFunc ∧ Ext w w') := (reckons_z (14#8) (by decide) w).mono fun _ _ h => ⟨h.1, h.2⟩
theorem reckons_15 (w : World) : CallsR Tryz.prog 88 #[U8 (15#8)] w (fun v w' => v = .nilFunc ∧ Ext w w') := (reckons_z (15#8) (by decide) w).mono fun _ _ h => ⟨h.1, h.2⟩
theorem reckons_16 (w : World) : CallsR Tryz.prog 88 #[U8 (16#8)] w (fun v w' => v = .nilFunc ∧ Ext w w') := (reckons_z (16#8) (by decide) w).mono fun _ _ h => ⟨h.1, h.2⟩
theorem reckons_17 (w : World) : CallsR Tryz.prog 88 #[U8 (17#8)] w (fun v w' => v = .nilFunc ∧ Ext w w') := (reckons_z (17#8) (by decide) w).mono fun _ _ h => ⟨h.1, h.2⟩
theorem reckons_18 (w : World) : CallsR Tryz.prog 88 #[U8 (18#8)] w (fun v w' => v = .nilFunc ∧ Ext w w') := (reckons_z (18#8) (by decide) w).mono fun _ _ h => ⟨h.1, h.2⟩
theorem reckons_19 (w : World) : CallsR Tryz.prog 88 #[U8 (19#8)] w (fun v w' => v = .nilFunc ∧ Ext w w') := (reckons_z (19#8) (by decide) w).mono fun _ _ h => ⟨h.1, h.2⟩
theorem reckons_20 (w : World) : CallsR Tryz.prog 88 #[U8 (20#8)] w (fun v w' => v = .nilFunc ∧ Ext w w') := (reckons_z (20#8) (by decide) w).mono fun _ _ h => ⟨h.1, h.2⟩
theorem reckons_21 (w : World) : CallsR Tryz.prog 88 #[U8 (21#8)] w (fun v w' => v = .nilFunc ∧ Ext w w') := (reckons_z (21#8) (by decide) w).mono fun _ _ h => ⟨h.1, h.2⟩
theorem reckons_22 (w : World) : CallsR Tryz.prog 88 #[U8 (22#8)] w (fun v w' => FunOk w' v (fun x y => x + y) ∧ Ext w w') := by
  refine callsR_of Tryz.func88 rfl rfl rfl ?_
  refine WC.seq (WC.region (WL.assign (v := .nilFunc) rfl rfl (WL.nil (WC.seq (WC.seq (WC.region (WL.move (v := U8 (22#8)) rfl rfl (WL.nil (WC.block ?_)))))))))
  refine WC.seq (WC.seq (WC.neU (c := 31#8) rfl rfl rfl rfl rfl rfl (by decide) (WC.region (WL.bin (v := .bool (true)) rfl (vy := U8 (22#8)) rfl rfl (BinR.toB (BinR.eqlU8) (by decide)) (WL.assign (v := .bool (true)) rfl rfl (WL.nil (WC.condT rfl (WC.seq (WC.region ?_)))))))))
  refine WL.assign (v := .func (.func 104) #[] #[]) rfl rfl (WL.nil (WC.ret ?_))
  exact ⟨_, Res.one (v := .func (.func 104) #[] #[]) rfl rfl, add_fun _, Mod.refl _ _⟩
theorem reckons_23 (w : World) : CallsR Tryz.prog 88 #[U8 (23#8)] w (fun v w' => FunOk w' v (fun x y => bitW (BitVec.slt x y)) ∧ Ext w w') := by
  refine callsR_of Tryz.func88 rfl rfl rfl ?_
  refine WC.seq (WC.region (WL.assign (v := .nilFunc) rfl rfl (WL.nil (WC.seq (WC.seq (WC.region (WL.move (v := U8 (23#8)) rfl rfl (WL.nil (WC.block ?_)))))))))
  refine WC.seq (WC.seq (WC.neU (c := 31#8) rfl rfl rfl rfl rfl rfl (by decide) (WC.neU (c := 22#8) rfl rfl rfl rfl rfl rfl (by decide) (WC.seq (WC.neU (c := 32#8) rfl rfl rfl rfl rfl rfl (by decide) (WC.seq (WC.seq (WC.neU (c := 34#8) rfl rfl rfl rfl rfl rfl (by decide) (WC.region ?_)))))))))
  refine WL.bin (v := .bool (true)) rfl (vy := U8 (23#8)) rfl rfl (BinR.toB (BinR.eqlU8) (by decide)) (WL.assign (v := .bool (true)) rfl rfl (WL.nil (WC.condT rfl (WC.seq (WC.region (WL.assign (v := .func (.func 106) #[] #[]) rfl rfl (WL.nil (WC.ret ?_))))))))
  exact ⟨_, Res.one (v := .func (.func 106) #[] #[]) rfl rfl, slt_fun _, Mod.refl _ _⟩
theorem reckons_24 (w : World) : CallsR Tryz.prog 88 #[U8 (24#8)] w (fun v w' => FunOk w' v (fun x y => bitW (BitVec.ult x y)) ∧ Ext w w') := by
  refine callsR_of Tryz.func88 rfl rfl rfl ?_
  refine WC.seq (WC.region (WL.assign (v := .nilFunc) rfl rfl (WL.nil (WC.seq (WC.seq (WC.region (WL.move (v := U8 (24#8)) rfl rfl (WL.nil (WC.block ?_)))))))))
  refine WC.seq (WC.seq (WC.neU (c := 31#8) rfl rfl rfl rfl rfl rfl (by decide) (WC.neU (c := 22#8) rfl rfl rfl rfl rfl rfl (by decide) (WC.seq (WC.neU (c := 32#8) rfl rfl rfl rfl rfl rfl (by decide) (WC.seq (WC.seq (WC.neU (c := 34#8) rfl rfl rfl rfl rfl rfl (by decide) (WC.neU (c := 23#8) rfl rfl rfl rfl rfl rfl (by decide) ?_)))))))))
  refine WC.seq (WC.seq (WC.neU (c := 35#8) rfl rfl rfl rfl rfl rfl (by decide) (WC.region (WL.bin (v := .bool (true)) rfl (vy := U8 (24#8)) rfl rfl (BinR.toB (BinR.eqlU8) (by decide)) (WL.assign (v := .bool (true)) rfl rfl (WL.nil (WC.condT rfl (WC.seq (WC.region ?_)))))))))
  refine WL.assign (v := .func (.func 108) #[] #[]) rfl rfl (WL.nil (WC.ret ?_))
  exact ⟨_, Res.one (v := .func (.func 108) #[] #[]) rfl rfl, sltu_fun _, Mod.refl _ _⟩
theorem reckons_25 (w : World) : CallsR Tryz.prog 88 #[U8 (25#8)] w (fun v w' => FunOk w' v (fun x y => x ^^^ y) ∧ Ext w w') := by
  refine callsR_of Tryz.func88 rfl rfl rfl ?_
  refine WC.seq (WC.region (WL.assign (v := .nilFunc) rfl rfl (WL.nil (WC.seq (WC.seq (WC.region (WL.move (v := U8 (25#8)) rfl rfl (WL.nil (WC.block ?_)))))))))
  refine WC.seq (WC.seq (WC.neU (c := 31#8) rfl rfl rfl rfl rfl rfl (by decide) (WC.neU (c := 22#8) rfl rfl rfl rfl rfl rfl (by decide) (WC.seq (WC.neU (c := 32#8) rfl rfl rfl rfl rfl rfl (by decide) (WC.seq (WC.seq (WC.neU (c := 34#8) rfl rfl rfl rfl rfl rfl (by decide) (WC.neU (c := 23#8) rfl rfl rfl rfl rfl rfl (by decide) ?_)))))))))
  refine WC.seq (WC.seq (WC.neU (c := 35#8) rfl rfl rfl rfl rfl rfl (by decide) (WC.neU (c := 24#8) rfl rfl rfl rfl rfl rfl (by decide) (WC.seq (WC.seq (WC.neU (c := 36#8) rfl rfl rfl rfl rfl rfl (by decide) (WC.region (WL.bin (v := .bool (true)) rfl (vy := U8 (25#8)) rfl rfl (BinR.toB (BinR.eqlU8) (by decide)) (WL.assign (v := .bool (true)) rfl rfl ?_)))))))))
  refine WL.nil (WC.condT rfl (WC.seq (WC.region (WL.assign (v := .func (.func 109) #[] #[]) rfl rfl (WL.nil (WC.ret ?_))))))
  exact ⟨_, Res.one (v := .func (.func 109) #[] #[]) rfl rfl, xor_fun _, Mod.refl _ _⟩
theorem reckons_26 (w : World) : CallsR Tryz.prog 88 #[U8 (26#8)] w (fun v w' => FunOk w' v (fun x y => x ||| y) ∧ Ext w w') := by
  refine callsR_of Tryz.func88 rfl rfl rfl ?_
  refine WC.seq (WC.region (WL.assign (v := .nilFunc) rfl rfl (WL.nil (WC.seq (WC.seq (WC.region (WL.move (v := U8 (26#8)) rfl rfl (WL.nil (WC.block ?_)))))))))
  refine WC.seq (WC.seq (WC.neU (c := 31#8) rfl rfl rfl rfl rfl rfl (by decide) (WC.neU (c := 22#8) rfl rfl rfl rfl rfl rfl (by decide) (WC.seq (WC.neU (c := 32#8) rfl rfl rfl rfl rfl rfl (by decide) (WC.seq (WC.seq (WC.neU (c := 34#8) rfl rfl rfl rfl rfl rfl (by decide) (WC.neU (c := 23#8) rfl rfl rfl rfl rfl rfl (by decide) ?_)))))))))
  refine WC.seq (WC.seq (WC.neU (c := 35#8) rfl rfl rfl rfl rfl rfl (by decide) (WC.neU (c := 24#8) rfl rfl rfl rfl rfl rfl (by decide) (WC.seq (WC.seq (WC.neU (c := 36#8) rfl rfl rfl rfl rfl rfl (by decide) (WC.neU (c := 25#8) rfl rfl rfl rfl rfl rfl (by decide) (WC.seq (WC.seq ?_)))))))))
  refine WC.neU (c := 39#8) rfl rfl rfl rfl rfl rfl (by decide) (WC.region (WL.bin (v := .bool (true)) rfl (vy := U8 (26#8)) rfl rfl (BinR.toB (BinR.eqlU8) (by decide)) (WL.assign (v := .bool (true)) rfl rfl (WL.nil (WC.condT rfl (WC.seq (WC.region (WL.assign (v := .func (.func 110) #[] #[]) rfl rfl (WL.nil ?_)))))))))
  refine WC.ret ?_
  exact ⟨_, Res.one (v := .func (.func 110) #[] #[]) rfl rfl, or_fun _, Mod.refl _ _⟩
theorem reckons_27 (w : World) : CallsR Tryz.prog 88 #[U8 (27#8)] w (fun v w' => FunOk w' v (fun x y => x &&& y) ∧ Ext w w') := by
  refine callsR_of Tryz.func88 rfl rfl rfl ?_
  refine WC.seq (WC.region (WL.assign (v := .nilFunc) rfl rfl (WL.nil (WC.seq (WC.seq (WC.region (WL.move (v := U8 (27#8)) rfl rfl (WL.nil (WC.block ?_)))))))))
  refine WC.seq (WC.seq (WC.neU (c := 31#8) rfl rfl rfl rfl rfl rfl (by decide) (WC.neU (c := 22#8) rfl rfl rfl rfl rfl rfl (by decide) (WC.seq (WC.neU (c := 32#8) rfl rfl rfl rfl rfl rfl (by decide) (WC.seq (WC.seq (WC.neU (c := 34#8) rfl rfl rfl rfl rfl rfl (by decide) (WC.neU (c := 23#8) rfl rfl rfl rfl rfl rfl (by decide) ?_)))))))))
  refine WC.seq (WC.seq (WC.neU (c := 35#8) rfl rfl rfl rfl rfl rfl (by decide) (WC.neU (c := 24#8) rfl rfl rfl rfl rfl rfl (by decide) (WC.seq (WC.seq (WC.neU (c := 36#8) rfl rfl rfl rfl rfl rfl (by decide) (WC.neU (c := 25#8) rfl rfl rfl rfl rfl rfl (by decide) (WC.seq (WC.seq ?_)))))))))
  refine WC.neU (c := 39#8) rfl rfl rfl rfl rfl rfl (by decide) (WC.neU (c := 26#8) rfl rfl rfl rfl rfl rfl (by decide) (WC.seq (WC.seq (WC.neU (c := 40#8) rfl rfl rfl rfl rfl rfl (by decide) (WC.region (WL.bin (v := .bool (true)) rfl (vy := U8 (27#8)) rfl rfl (BinR.toB (BinR.eqlU8) (by decide)) (WL.assign (v := .bool (true)) rfl rfl (WL.nil (WC.condT rfl ?_)))))))))
  refine WC.seq (WC.region (WL.assign (v := .func (.func 111) #[] #[]) rfl rfl (WL.nil (WC.ret ?_))))
  exact ⟨_, Res.one (v := .func (.func 111) #[] #[]) rfl rfl, and_fun _, Mod.refl _ _⟩
theorem reckons_28 (w : World) : CallsR Tryz.prog 88 #[U8 (28#8)] w (fun v w' => FunOk w' v sllW ∧ Ext w w') := (reckons_z (28#8) (by decide) w).mono fun _ _ h => ⟨h.1 ▸ sll_fun _, h.2⟩
theorem reckons_29 (w : World) : CallsR Tryz.prog 88 #[U8 (29#8)] w (fun v w' => FunOk w' v srlW ∧ Ext w w') := (reckons_z (29#8) (by decide) w).mono fun _ _ h => ⟨h.1 ▸ srl_fun _, h.2⟩
theorem reckons_30 (w : World) : CallsR Tryz.prog 88 #[U8 (30#8)] w (fun v w' => FunOk w' v sraW ∧ Ext w w') := (reckons_z (30#8) (by decide) w).mono fun _ _ h => ⟨h.1 ▸ sra_fun _, h.2⟩
theorem reckons_33 (w : World) : CallsR Tryz.prog 88 #[U8 (33#8)] w (fun v w' => FunOk w' v sllW ∧ Ext w w') := (reckons_z (33#8) (by decide) w).mono fun _ _ h => ⟨h.1 ▸ sll_fun _, h.2⟩
theorem reckons_34 (w : World) : CallsR Tryz.prog 88 #[U8 (34#8)] w (fun v w' => FunOk w' v (fun x y => bitW (BitVec.slt x y)) ∧ Ext w w') := by
  refine callsR_of Tryz.func88 rfl rfl rfl ?_
  refine WC.seq (WC.region (WL.assign (v := .nilFunc) rfl rfl (WL.nil (WC.seq (WC.seq (WC.region (WL.move (v := U8 (34#8)) rfl rfl (WL.nil (WC.block ?_)))))))))
  refine WC.seq (WC.seq (WC.neU (c := 31#8) rfl rfl rfl rfl rfl rfl (by decide) (WC.neU (c := 22#8) rfl rfl rfl rfl rfl rfl (by decide) (WC.seq (WC.neU (c := 32#8) rfl rfl rfl rfl rfl rfl (by decide) (WC.seq (WC.seq (WC.region (WL.bin (v := .bool (true)) rfl (vy := U8 (34#8)) rfl rfl (BinR.toB (BinR.eqlU8) (by decide)) ?_)))))))))
  refine WL.assign (v := .bool (true)) rfl rfl (WL.nil (WC.condT rfl (WC.skip (WC.condT rfl (WC.seq (WC.region (WL.assign (v := .func (.func 106) #[] #[]) rfl rfl (WL.nil (WC.ret ?_)))))))))
  exact ⟨_, Res.one (v := .func (.func 106) #[] #[]) rfl rfl, slt_fun _, Mod.refl _ _⟩
theorem reckons_35 (w : World) : CallsR Tryz.prog 88 #[U8 (35#8)] w (fun v w' => FunOk w' v (fun x y => bitW (BitVec.ult x y)) ∧ Ext w w') := by
  refine callsR_of Tryz.func88 rfl rfl rfl ?_
  refine WC.seq (WC.region (WL.assign (v := .nilFunc) rfl rfl (WL.nil (WC.seq (WC.seq (WC.region (WL.move (v := U8 (35#8)) rfl rfl (WL.nil (WC.block ?_)))))))))
  refine WC.seq (WC.seq (WC.neU (c := 31#8) rfl rfl rfl rfl rfl rfl (by decide) (WC.neU (c := 22#8) rfl rfl rfl rfl rfl rfl (by decide) (WC.seq (WC.neU (c := 32#8) rfl rfl rfl rfl rfl rfl (by decide) (WC.seq (WC.seq (WC.neU (c := 34#8) rfl rfl rfl rfl rfl rfl (by decide) (WC.neU (c := 23#8) rfl rfl rfl rfl rfl rfl (by decide) ?_)))))))))
  refine WC.seq (WC.seq (WC.region (WL.bin (v := .bool (true)) rfl (vy := U8 (35#8)) rfl rfl (BinR.toB (BinR.eqlU8) (by decide)) (WL.assign (v := .bool (true)) rfl rfl (WL.nil (WC.condT rfl (WC.skip (WC.condT rfl (WC.seq ?_)))))))))
  refine WC.region (WL.assign (v := .func (.func 108) #[] #[]) rfl rfl (WL.nil (WC.ret ?_)))
  exact ⟨_, Res.one (v := .func (.func 108) #[] #[]) rfl rfl, sltu_fun _, Mod.refl _ _⟩
theorem reckons_36 (w : World) : CallsR Tryz.prog 88 #[U8 (36#8)] w (fun v w' => FunOk w' v (fun x y => x ^^^ y) ∧ Ext w w') := by
  refine callsR_of Tryz.func88 rfl rfl rfl ?_
  refine WC.seq (WC.region (WL.assign (v := .nilFunc) rfl rfl (WL.nil (WC.seq (WC.seq (WC.region (WL.move (v := U8 (36#8)) rfl rfl (WL.nil (WC.block ?_)))))))))
  refine WC.seq (WC.seq (WC.neU (c := 31#8) rfl rfl rfl rfl rfl rfl (by decide) (WC.neU (c := 22#8) rfl rfl rfl rfl rfl rfl (by decide) (WC.seq (WC.neU (c := 32#8) rfl rfl rfl rfl rfl rfl (by decide) (WC.seq (WC.seq (WC.neU (c := 34#8) rfl rfl rfl rfl rfl rfl (by decide) (WC.neU (c := 23#8) rfl rfl rfl rfl rfl rfl (by decide) ?_)))))))))
  refine WC.seq (WC.seq (WC.neU (c := 35#8) rfl rfl rfl rfl rfl rfl (by decide) (WC.neU (c := 24#8) rfl rfl rfl rfl rfl rfl (by decide) (WC.seq (WC.seq (WC.region (WL.bin (v := .bool (true)) rfl (vy := U8 (36#8)) rfl rfl (BinR.toB (BinR.eqlU8) (by decide)) (WL.assign (v := .bool (true)) rfl rfl (WL.nil ?_)))))))))
  refine WC.condT rfl (WC.skip (WC.condT rfl (WC.seq (WC.region (WL.assign (v := .func (.func 109) #[] #[]) rfl rfl (WL.nil (WC.ret ?_)))))))
  exact ⟨_, Res.one (v := .func (.func 109) #[] #[]) rfl rfl, xor_fun _, Mod.refl _ _⟩
theorem reckons_37 (w : World) : CallsR Tryz.prog 88 #[U8 (37#8)] w (fun v w' => FunOk w' v srlW ∧ Ext w w') := (reckons_z (37#8) (by decide) w).mono fun _ _ h => ⟨h.1 ▸ srl_fun _, h.2⟩
theorem reckons_38 (w : World) : CallsR Tryz.prog 88 #[U8 (38#8)] w (fun v w' => FunOk w' v sraW ∧ Ext w w') := (reckons_z (38#8) (by decide) w).mono fun _ _ h => ⟨h.1 ▸ sra_fun _, h.2⟩
theorem reckons_39 (w : World) : CallsR Tryz.prog 88 #[U8 (39#8)] w (fun v w' => FunOk w' v (fun x y => x ||| y) ∧ Ext w w') := by
  refine callsR_of Tryz.func88 rfl rfl rfl ?_
  refine WC.seq (WC.region (WL.assign (v := .nilFunc) rfl rfl (WL.nil (WC.seq (WC.seq (WC.region (WL.move (v := U8 (39#8)) rfl rfl (WL.nil (WC.block ?_)))))))))
  refine WC.seq (WC.seq (WC.neU (c := 31#8) rfl rfl rfl rfl rfl rfl (by decide) (WC.neU (c := 22#8) rfl rfl rfl rfl rfl rfl (by decide) (WC.seq (WC.neU (c := 32#8) rfl rfl rfl rfl rfl rfl (by decide) (WC.seq (WC.seq (WC.neU (c := 34#8) rfl rfl rfl rfl rfl rfl (by decide) (WC.neU (c := 23#8) rfl rfl rfl rfl rfl rfl (by decide) ?_)))))))))
  refine WC.seq (WC.seq (WC.neU (c := 35#8) rfl rfl rfl rfl rfl rfl (by decide) (WC.neU (c := 24#8) rfl rfl rfl rfl rfl rfl (by decide) (WC.seq (WC.seq (WC.neU (c := 36#8) rfl rfl rfl rfl rfl rfl (by decide) (WC.neU (c := 25#8) rfl rfl rfl rfl rfl rfl (by decide) (WC.seq (WC.seq ?_)))))))))
  refine WC.region (WL.bin (v := .bool (true)) rfl (vy := U8 (39#8)) rfl rfl (BinR.toB (BinR.eqlU8) (by decide)) (WL.assign (v := .bool (true)) rfl rfl (WL.nil (WC.condT rfl (WC.skip (WC.condT rfl (WC.seq (WC.region (WL.assign (v := .func (.func 110) #[] #[]) rfl rfl ?_)))))))))
  refine WL.nil (WC.ret ?_)
  exact ⟨_, Res.one (v := .func (.func 110) #[] #[]) rfl rfl, or_fun _, Mod.refl _ _⟩
theorem reckons_40 (w : World) : CallsR Tryz.prog 88 #[U8 (40#8)] w (fun v w' => FunOk w' v (fun x y => x &&& y) ∧ Ext w w') := by
  refine callsR_of Tryz.func88 rfl rfl rfl ?_
  refine WC.seq (WC.region (WL.assign (v := .nilFunc) rfl rfl (WL.nil (WC.seq (WC.seq (WC.region (WL.move (v := U8 (40#8)) rfl rfl (WL.nil (WC.block ?_)))))))))
  refine WC.seq (WC.seq (WC.neU (c := 31#8) rfl rfl rfl rfl rfl rfl (by decide) (WC.neU (c := 22#8) rfl rfl rfl rfl rfl rfl (by decide) (WC.seq (WC.neU (c := 32#8) rfl rfl rfl rfl rfl rfl (by decide) (WC.seq (WC.seq (WC.neU (c := 34#8) rfl rfl rfl rfl rfl rfl (by decide) (WC.neU (c := 23#8) rfl rfl rfl rfl rfl rfl (by decide) ?_)))))))))
  refine WC.seq (WC.seq (WC.neU (c := 35#8) rfl rfl rfl rfl rfl rfl (by decide) (WC.neU (c := 24#8) rfl rfl rfl rfl rfl rfl (by decide) (WC.seq (WC.seq (WC.neU (c := 36#8) rfl rfl rfl rfl rfl rfl (by decide) (WC.neU (c := 25#8) rfl rfl rfl rfl rfl rfl (by decide) (WC.seq (WC.seq ?_)))))))))
  refine WC.neU (c := 39#8) rfl rfl rfl rfl rfl rfl (by decide) (WC.neU (c := 26#8) rfl rfl rfl rfl rfl rfl (by decide) (WC.seq (WC.seq (WC.region (WL.bin (v := .bool (true)) rfl (vy := U8 (40#8)) rfl rfl (BinR.toB (BinR.eqlU8) (by decide)) (WL.assign (v := .bool (true)) rfl rfl (WL.nil (WC.condT rfl (WC.skip ?_)))))))))
  refine WC.condT rfl (WC.seq (WC.region (WL.assign (v := .func (.func 111) #[] #[]) rfl rfl (WL.nil (WC.ret ?_)))))
  exact ⟨_, Res.one (v := .func (.func 111) #[] #[]) rfl rfl, and_fun _, Mod.refl _ _⟩
theorem reckons_41 (w : World) : CallsR Tryz.prog 88 #[U8 (41#8)] w (fun v w' => FunOk w' v (signedF (fun x y => x + y)) ∧ Ext w w') := by
  refine callsR_of Tryz.func88 rfl rfl rfl ?_
  refine WC.seq (WC.region (WL.assign (v := .nilFunc) rfl rfl (WL.nil (WC.seq (WC.seq (WC.region (WL.move (v := U8 (41#8)) rfl rfl (WL.nil (WC.block ?_)))))))))
  refine WC.seq (WC.seq (WC.neU (c := 31#8) rfl rfl rfl rfl rfl rfl (by decide) (WC.neU (c := 22#8) rfl rfl rfl rfl rfl rfl (by decide) (WC.seq (WC.neU (c := 32#8) rfl rfl rfl rfl rfl rfl (by decide) (WC.seq (WC.seq (WC.neU (c := 34#8) rfl rfl rfl rfl rfl rfl (by decide) (WC.neU (c := 23#8) rfl rfl rfl rfl rfl rfl (by decide) ?_)))))))))
  refine WC.seq (WC.seq (WC.neU (c := 35#8) rfl rfl rfl rfl rfl rfl (by decide) (WC.neU (c := 24#8) rfl rfl rfl rfl rfl rfl (by decide) (WC.seq (WC.seq (WC.neU (c := 36#8) rfl rfl rfl rfl rfl rfl (by decide) (WC.neU (c := 25#8) rfl rfl rfl rfl rfl rfl (by decide) (WC.seq (WC.seq ?_)))))))))
  refine WC.neU (c := 39#8) rfl rfl rfl rfl rfl rfl (by decide) (WC.neU (c := 26#8) rfl rfl rfl rfl rfl rfl (by decide) (WC.seq (WC.seq (WC.neU (c := 40#8) rfl rfl rfl rfl rfl rfl (by decide) (WC.neU (c := 27#8) rfl rfl rfl rfl rfl rfl (by decide) (WC.seq (WC.neU (c := 50#8) rfl rfl rfl rfl rfl rfl (by decide) (WC.seq (WC.seq ?_)))))))))
  refine WC.neU (c := 45#8) rfl rfl rfl rfl rfl rfl (by decide) (WC.region (WL.bin (v := .bool (true)) rfl (vy := U8 (41#8)) rfl rfl (BinR.toB (BinR.eqlU8) (by decide)) (WL.assign (v := .bool (true)) rfl rfl (WL.nil (WC.condT rfl (WC.seq (WC.region (WL.call ca88 rfl rfl (reckons_31 _) ?_))))))))
  rintro v30 w30 ⟨k30, e30⟩
  have E1 : Ext w w30 := Mod.trans (Mod.refl _ _) (e30)
  refine WL.call ca113 rfl rfl (signed_spec (v30) (fun x y => x + y) _ (k30)) ?_
  rintro v31 w31 ⟨k31, e31⟩
  have E2 : Ext w w31 := Mod.trans (E1) (e31)
  refine WL.assign (v := v31) rfl rfl (WL.nil (WC.ret ?_))
  exact ⟨_, Res.one (v := v31) rfl rfl, k31, E2⟩
theorem reckons_42 (w : World) : CallsR Tryz.prog 88 #[U8 (42#8)] w (fun v w' => FunOk w' v (movedF (signedF sllW)) ∧ Ext w w') := by
  refine callsR_of Tryz.func88 rfl rfl rfl ?_
  refine WC.seq (WC.region (WL.assign (v := .nilFunc) rfl rfl (WL.nil (WC.seq (WC.seq (WC.region (WL.move (v := U8 (42#8)) rfl rfl (WL.nil (WC.block ?_)))))))))
  refine WC.seq (WC.seq (WC.neU (c := 31#8) rfl rfl rfl rfl rfl rfl (by decide) (WC.neU (c := 22#8) rfl rfl rfl rfl rfl rfl (by decide) (WC.seq (WC.neU (c := 32#8) rfl rfl rfl rfl rfl rfl (by decide) (WC.seq (WC.seq (WC.neU (c := 34#8) rfl rfl rfl rfl rfl rfl (by decide) (WC.neU (c := 23#8) rfl rfl rfl rfl rfl rfl (by decide) ?_)))))))))
  refine WC.seq (WC.seq (WC.neU (c := 35#8) rfl rfl rfl rfl rfl rfl (by decide) (WC.neU (c := 24#8) rfl rfl rfl rfl rfl rfl (by decide) (WC.seq (WC.seq (WC.neU (c := 36#8) rfl rfl rfl rfl rfl rfl (by decide) (WC.neU (c := 25#8) rfl rfl rfl rfl rfl rfl (by decide) (WC.seq (WC.seq ?_)))))))))
  refine WC.neU (c := 39#8) rfl rfl rfl rfl rfl rfl (by decide) (WC.neU (c := 26#8) rfl rfl rfl rfl rfl rfl (by decide) (WC.seq (WC.seq (WC.neU (c := 40#8) rfl rfl rfl rfl rfl rfl (by decide) (WC.neU (c := 27#8) rfl rfl rfl rfl rfl rfl (by decide) (WC.seq (WC.neU (c := 50#8) rfl rfl rfl rfl rfl rfl (by decide) (WC.seq (WC.seq ?_)))))))))
  refine WC.neU (c := 45#8) rfl rfl rfl rfl rfl rfl (by decide) (WC.neU (c := 41#8) rfl rfl rfl rfl rfl rfl (by decide) (WC.seq (WC.neU (c := 46#8) rfl rfl rfl rfl rfl rfl (by decide) (WC.seq (WC.neU (c := 58#8) rfl rfl rfl rfl rfl rfl (by decide) (WC.seq (WC.seq (WC.neU (c := 47#8) rfl rfl rfl rfl rfl rfl (by decide) (WC.region ?_)))))))))
  refine WL.bin (v := .bool (true)) rfl (vy := U8 (42#8)) rfl rfl (BinR.toB (BinR.eqlU8) (by decide)) (WL.assign (v := .bool (true)) rfl rfl (WL.nil (WC.condT rfl (WC.seq (WC.region (WL.call ca113 rfl rfl (signed_spec (.func (.func 115) #[] #[]) sllW _ (sll_fun _)) ?_))))))
  rintro v43 w43 ⟨k43, e43⟩
  have E1 : Ext w w43 := Mod.trans (Mod.refl _ _) (e43)
  refine WL.call ca114 rfl rfl (moved_spec (v43) (signedF sllW) _ (k43)) ?_
  rintro v44 w44 ⟨k44, e44⟩
  have E2 : Ext w w44 := Mod.trans (E1) (e44)
  refine WL.assign (v := v44) rfl rfl (WL.nil (WC.ret ?_))
  exact ⟨_, Res.one (v := v44) rfl rfl, k44, E2⟩
theorem reckons_43 (w : World) : CallsR Tryz.prog 88 #[U8 (43#8)] w (fun v w' => FunOk w' v (movedF (unsignedF srlW)) ∧ Ext w w') := by
  refine callsR_of Tryz.func88 rfl rfl rfl ?_
  refine WC.seq (WC.region (WL.assign (v := .nilFunc) rfl rfl (WL.nil (WC.seq (WC.seq (WC.region (WL.move (v := U8 (43#8)) rfl rfl (WL.nil (WC.block ?_)))))))))
  refine WC.seq (WC.seq (WC.neU (c := 31#8) rfl rfl rfl rfl rfl rfl (by decide) (WC.neU (c := 22#8) rfl rfl rfl rfl rfl rfl (by decide) (WC.seq (WC.neU (c := 32#8) rfl rfl rfl rfl rfl rfl (by decide) (WC.seq (WC.seq (WC.neU (c := 34#8) rfl rfl rfl rfl rfl rfl (by decide) (WC.neU (c := 23#8) rfl rfl rfl rfl rfl rfl (by decide) ?_)))))))))
  refine WC.seq (WC.seq (WC.neU (c := 35#8) rfl rfl rfl rfl rfl rfl (by decide) (WC.neU (c := 24#8) rfl rfl rfl rfl rfl rfl (by decide) (WC.seq (WC.seq (WC.neU (c := 36#8) rfl rfl rfl rfl rfl rfl (by decide) (WC.neU (c := 25#8) rfl rfl rfl rfl rfl rfl (by decide) (WC.seq (WC.seq ?_)))))))))
  refine WC.neU (c := 39#8) rfl rfl rfl rfl rfl rfl (by decide) (WC.neU (c := 26#8) rfl rfl rfl rfl rfl rfl (by decide) (WC.seq (WC.seq (WC.neU (c := 40#8) rfl rfl rfl rfl rfl rfl (by decide) (WC.neU (c := 27#8) rfl rfl rfl rfl rfl rfl (by decide) (WC.seq (WC.neU (c := 50#8) rfl rfl rfl rfl rfl rfl (by decide) (WC.seq (WC.seq ?_)))))))))
  refine WC.neU (c := 45#8) rfl rfl rfl rfl rfl rfl (by decide) (WC.neU (c := 41#8) rfl rfl rfl rfl rfl rfl (by decide) (WC.seq (WC.neU (c := 46#8) rfl rfl rfl rfl rfl rfl (by decide) (WC.seq (WC.neU (c := 58#8) rfl rfl rfl rfl rfl rfl (by decide) (WC.seq (WC.seq (WC.neU (c := 47#8) rfl rfl rfl rfl rfl rfl (by decide) (WC.neU (c := 42#8) rfl rfl rfl rfl rfl rfl (by decide) ?_)))))))))
  refine WC.seq (WC.seq (WC.neU (c := 48#8) rfl rfl rfl rfl rfl rfl (by decide) (WC.region (WL.bin (v := .bool (true)) rfl (vy := U8 (43#8)) rfl rfl (BinR.toB (BinR.eqlU8) (by decide)) (WL.assign (v := .bool (true)) rfl rfl (WL.nil (WC.condT rfl (WC.seq (WC.region ?_)))))))))
  refine WL.call ca116 rfl rfl (unsigned_spec (.func (.func 117) #[] #[]) srlW _ (srl_fun _)) ?_
  rintro v48 w48 ⟨k48, e48⟩
  have E1 : Ext w w48 := Mod.trans (Mod.refl _ _) (e48)
  refine WL.call ca114 rfl rfl (moved_spec (v48) (unsignedF srlW) _ (k48)) ?_
  rintro v49 w49 ⟨k49, e49⟩
  have E2 : Ext w w49 := Mod.trans (E1) (e49)
  refine WL.assign (v := v49) rfl rfl (WL.nil (WC.ret ?_))
  exact ⟨_, Res.one (v := v49) rfl rfl, k49, E2⟩
theorem reckons_44 (w : World) : CallsR Tryz.prog 88 #[U8 (44#8)] w (fun v w' => FunOk w' v (movedF (signedF sraW)) ∧ Ext w w') := by
  refine callsR_of Tryz.func88 rfl rfl rfl ?_
  refine WC.seq (WC.region (WL.assign (v := .nilFunc) rfl rfl (WL.nil (WC.seq (WC.seq (WC.region (WL.move (v := U8 (44#8)) rfl rfl (WL.nil (WC.block ?_)))))))))
  refine WC.seq (WC.seq (WC.neU (c := 31#8) rfl rfl rfl rfl rfl rfl (by decide) (WC.neU (c := 22#8) rfl rfl rfl rfl rfl rfl (by decide) (WC.seq (WC.neU (c := 32#8) rfl rfl rfl rfl rfl rfl (by decide) (WC.seq (WC.seq (WC.neU (c := 34#8) rfl rfl rfl rfl rfl rfl (by decide) (WC.neU (c := 23#8) rfl rfl rfl rfl rfl rfl (by decide) ?_)))))))))
  refine WC.seq (WC.seq (WC.neU (c := 35#8) rfl rfl rfl rfl rfl rfl (by decide) (WC.neU (c := 24#8) rfl rfl rfl rfl rfl rfl (by decide) (WC.seq (WC.seq (WC.neU (c := 36#8) rfl rfl rfl rfl rfl rfl (by decide) (WC.neU (c := 25#8) rfl rfl rfl rfl rfl rfl (by decide) (WC.seq (WC.seq ?_)))))))))
  refine WC.neU (c := 39#8) rfl rfl rfl rfl rfl rfl (by decide) (WC.neU (c := 26#8) rfl rfl rfl rfl rfl rfl (by decide) (WC.seq (WC.seq (WC.neU (c := 40#8) rfl rfl rfl rfl rfl rfl (by decide) (WC.neU (c := 27#8) rfl rfl rfl rfl rfl rfl (by decide) (WC.seq (WC.neU (c := 50#8) rfl rfl rfl rfl rfl rfl (by decide) (WC.seq (WC.seq ?_)))))))))
  refine WC.neU (c := 45#8) rfl rfl rfl rfl rfl rfl (by decide) (WC.neU (c := 41#8) rfl rfl rfl rfl rfl rfl (by decide) (WC.seq (WC.neU (c := 46#8) rfl rfl rfl rfl rfl rfl (by decide) (WC.seq (WC.neU (c := 58#8) rfl rfl rfl rfl rfl rfl (by decide) (WC.seq (WC.seq (WC.neU (c := 47#8) rfl rfl rfl rfl rfl rfl (by decide) (WC.neU (c := 42#8) rfl rfl rfl rfl rfl rfl (by decide) ?_)))))))))
  refine WC.seq (WC.seq (WC.neU (c := 48#8) rfl rfl rfl rfl rfl rfl (by decide) (WC.neU (c := 43#8) rfl rfl rfl rfl rfl rfl (by decide) (WC.seq (WC.seq (WC.neU (c := 49#8) rfl rfl rfl rfl rfl rfl (by decide) (WC.region (WL.bin (v := .bool (true)) rfl (vy := U8 (44#8)) rfl rfl (BinR.toB (BinR.eqlU8) (by decide)) (WL.assign (v := .bool (true)) rfl rfl ?_)))))))))
  refine WL.nil (WC.condT rfl (WC.seq (WC.region (WL.call ca113 rfl rfl (signed_spec (.func (.func 118) #[] #[]) sraW _ (sra_fun _)) ?_))))
  rintro v53 w53 ⟨k53, e53⟩
  have E1 : Ext w w53 := Mod.trans (Mod.refl _ _) (e53)
  refine WL.call ca114 rfl rfl (moved_spec (v53) (signedF sraW) _ (k53)) ?_
  rintro v54 w54 ⟨k54, e54⟩
  have E2 : Ext w w54 := Mod.trans (E1) (e54)
  refine WL.assign (v := v54) rfl rfl (WL.nil (WC.ret ?_))
  exact ⟨_, Res.one (v := v54) rfl rfl, k54, E2⟩
theorem reckons_45 (w : World) : CallsR Tryz.prog 88 #[U8 (45#8)] w (fun v w' => FunOk w' v (signedF (fun x y => x + y)) ∧ Ext w w') := by
  refine callsR_of Tryz.func88 rfl rfl rfl ?_
  refine WC.seq (WC.region (WL.assign (v := .nilFunc) rfl rfl (WL.nil (WC.seq (WC.seq (WC.region (WL.move (v := U8 (45#8)) rfl rfl (WL.nil (WC.block ?_)))))))))
  refine WC.seq (WC.seq (WC.neU (c := 31#8) rfl rfl rfl rfl rfl rfl (by decide) (WC.neU (c := 22#8) rfl rfl rfl rfl rfl rfl (by decide) (WC.seq (WC.neU (c := 32#8) rfl rfl rfl rfl rfl rfl (by decide) (WC.seq (WC.seq (WC.neU (c := 34#8) rfl rfl rfl rfl rfl rfl (by decide) (WC.neU (c := 23#8) rfl rfl rfl rfl rfl rfl (by decide) ?_)))))))))
  refine WC.seq (WC.seq (WC.neU (c := 35#8) rfl rfl rfl rfl rfl rfl (by decide) (WC.neU (c := 24#8) rfl rfl rfl rfl rfl rfl (by decide) (WC.seq (WC.seq (WC.neU (c := 36#8) rfl rfl rfl rfl rfl rfl (by decide) (WC.neU (c := 25#8) rfl rfl rfl rfl rfl rfl (by decide) (WC.seq (WC.seq ?_)))))))))
  refine WC.neU (c := 39#8) rfl rfl rfl rfl rfl rfl (by decide) (WC.neU (c := 26#8) rfl rfl rfl rfl rfl rfl (by decide) (WC.seq (WC.seq (WC.neU (c := 40#8) rfl rfl rfl rfl rfl rfl (by decide) (WC.neU (c := 27#8) rfl rfl rfl rfl rfl rfl (by decide) (WC.seq (WC.neU (c := 50#8) rfl rfl rfl rfl rfl rfl (by decide) (WC.seq (WC.seq ?_)))))))))
  refine WC.region (WL.bin (v := .bool (true)) rfl (vy := U8 (45#8)) rfl rfl (BinR.toB (BinR.eqlU8) (by decide)) (WL.assign (v := .bool (true)) rfl rfl (WL.nil (WC.condT rfl (WC.skip (WC.condT rfl (WC.seq (WC.region (WL.call ca88 rfl rfl (reckons_31 _) ?_)))))))))
  rintro v30 w30 ⟨k30, e30⟩
  have E1 : Ext w w30 := Mod.trans (Mod.refl _ _) (e30)
  refine WL.call ca113 rfl rfl (signed_spec (v30) (fun x y => x + y) _ (k30)) ?_
  rintro v31 w31 ⟨k31, e31⟩
  have E2 : Ext w w31 := Mod.trans (E1) (e31)
  refine WL.assign (v := v31) rfl rfl (WL.nil (WC.ret ?_))
  exact ⟨_, Res.one (v := v31) rfl rfl, k31, E2⟩
theorem reckons_46 (w : World) : CallsR Tryz.prog 88 #[U8 (46#8)] w (fun v w' => FunOk w' v (signedF (fun x y => x - y)) ∧ Ext w w') := by
  refine callsR_of Tryz.func88 rfl rfl rfl ?_
  refine WC.seq (WC.region (WL.assign (v := .nilFunc) rfl rfl (WL.nil (WC.seq (WC.seq (WC.region (WL.move (v := U8 (46#8)) rfl rfl (WL.nil (WC.block ?_)))))))))
  refine WC.seq (WC.seq (WC.neU (c := 31#8) rfl rfl rfl rfl rfl rfl (by decide) (WC.neU (c := 22#8) rfl rfl rfl rfl rfl rfl (by decide) (WC.seq (WC.neU (c := 32#8) rfl rfl rfl rfl rfl rfl (by decide) (WC.seq (WC.seq (WC.neU (c := 34#8) rfl rfl rfl rfl rfl rfl (by decide) (WC.neU (c := 23#8) rfl rfl rfl rfl rfl rfl (by decide) ?_)))))))))
  refine WC.seq (WC.seq (WC.neU (c := 35#8) rfl rfl rfl rfl rfl rfl (by decide) (WC.neU (c := 24#8) rfl rfl rfl rfl rfl rfl (by decide) (WC.seq (WC.seq (WC.neU (c := 36#8) rfl rfl rfl rfl rfl rfl (by decide) (WC.neU (c := 25#8) rfl rfl rfl rfl rfl rfl (by decide) (WC.seq (WC.seq ?_)))))))))
  refine WC.neU (c := 39#8) rfl rfl rfl rfl rfl rfl (by decide) (WC.neU (c := 26#8) rfl rfl rfl rfl rfl rfl (by decide) (WC.seq (WC.seq (WC.neU (c := 40#8) rfl rfl rfl rfl rfl rfl (by decide) (WC.neU (c := 27#8) rfl rfl rfl rfl rfl rfl (by decide) (WC.seq (WC.neU (c := 50#8) rfl rfl rfl rfl rfl rfl (by decide) (WC.seq (WC.seq ?_)))))))))
  refine WC.neU (c := 45#8) rfl rfl rfl rfl rfl rfl (by decide) (WC.neU (c := 41#8) rfl rfl rfl rfl rfl rfl (by decide) (WC.seq (WC.region (WL.bin (v := .bool (true)) rfl (vy := U8 (46#8)) rfl rfl (BinR.toB (BinR.eqlU8) (by decide)) (WL.assign (v := .bool (true)) rfl rfl (WL.nil (WC.condT rfl (WC.seq (WC.region ?_)))))))))
  refine WL.call ca88 rfl rfl (reckons_32 _) ?_
  rintro v34 w34 ⟨k34, e34⟩
  have E1 : Ext w w34 := Mod.trans (Mod.refl _ _) (e34)
  refine WL.call ca113 rfl rfl (signed_spec (v34) (fun x y => x - y) _ (k34)) ?_
  rintro v35 w35 ⟨k35, e35⟩
  have E2 : Ext w w35 := Mod.trans (E1) (e35)
  refine WL.assign (v := v35) rfl rfl (WL.nil (WC.ret ?_))
  exact ⟨_, Res.one (v := v35) rfl rfl, k35, E2⟩
theorem reckons_47 (w : World) : CallsR Tryz.prog 88 #[U8 (47#8)] w (fun v w' => FunOk w' v (movedF (signedF sllW)) ∧ Ext w w') := by
  refine callsR_of Tryz.func88 rfl rfl rfl ?_
  refine WC.seq (WC.region (WL.assign (v := .nilFunc) rfl rfl (WL.nil (WC.seq (WC.seq (WC.region (WL.move (v := U8 (47#8)) rfl rfl (WL.nil (WC.block ?_)))))))))
  refine WC.seq (WC.seq (WC.neU (c := 31#8) rfl rfl rfl rfl rfl rfl (by decide) (WC.neU (c := 22#8) rfl rfl rfl rfl rfl rfl (by decide) (WC.seq (WC.neU (c := 32#8) rfl rfl rfl rfl rfl rfl (by decide) (WC.seq (WC.seq (WC.neU (c := 34#8) rfl rfl rfl rfl rfl rfl (by decide) (WC.neU (c := 23#8) rfl rfl rfl rfl rfl rfl (by decide) ?_)))))))))
  refine WC.seq (WC.seq (WC.neU (c := 35#8) rfl rfl rfl rfl rfl rfl (by decide) (WC.neU (c := 24#8) rfl rfl rfl rfl rfl rfl (by decide) (WC.seq (WC.seq (WC.neU (c := 36#8) rfl rfl rfl rfl rfl rfl (by decide) (WC.neU (c := 25#8) rfl rfl rfl rfl rfl rfl (by decide) (WC.seq (WC.seq ?_)))))))))
  refine WC.neU (c := 39#8) rfl rfl rfl rfl rfl rfl (by decide) (WC.neU (c := 26#8) rfl rfl rfl rfl rfl rfl (by decide) (WC.seq (WC.seq (WC.neU (c := 40#8) rfl rfl rfl rfl rfl rfl (by decide) (WC.neU (c := 27#8) rfl rfl rfl rfl rfl rfl (by decide) (WC.seq (WC.neU (c := 50#8) rfl rfl rfl rfl rfl rfl (by decide) (WC.seq (WC.seq ?_)))))))))
  refine WC.neU (c := 45#8) rfl rfl rfl rfl rfl rfl (by decide) (WC.neU (c := 41#8) rfl rfl rfl rfl rfl rfl (by decide) (WC.seq (WC.neU (c := 46#8) rfl rfl rfl rfl rfl rfl (by decide) (WC.seq (WC.neU (c := 58#8) rfl rfl rfl rfl rfl rfl (by decide) (WC.seq (WC.seq (WC.region (WL.bin (v := .bool (true)) rfl (vy := U8 (47#8)) rfl rfl (BinR.toB (BinR.eqlU8) (by decide)) ?_)))))))))
  refine WL.assign (v := .bool (true)) rfl rfl (WL.nil (WC.condT rfl (WC.skip (WC.condT rfl (WC.seq (WC.region (WL.call ca113 rfl rfl (signed_spec (.func (.func 115) #[] #[]) sllW _ (sll_fun _)) ?_)))))))
  rintro v43 w43 ⟨k43, e43⟩
  have E1 : Ext w w43 := Mod.trans (Mod.refl _ _) (e43)
  refine WL.call ca114 rfl rfl (moved_spec (v43) (signedF sllW) _ (k43)) ?_
  rintro v44 w44 ⟨k44, e44⟩
  have E2 : Ext w w44 := Mod.trans (E1) (e44)
  refine WL.assign (v := v44) rfl rfl (WL.nil (WC.ret ?_))
  exact ⟨_, Res.one (v := v44) rfl rfl, k44, E2⟩
theorem reckons_48 (w : World) : CallsR Tryz.prog 88 #[U8 (48#8)] w (fun v w' => FunOk w' v (movedF (unsignedF srlW)) ∧ Ext w w') := by
  refine callsR_of Tryz.func88 rfl rfl rfl ?_
  refine WC.seq (WC.region (WL.assign (v := .nilFunc) rfl rfl (WL.nil (WC.seq (WC.seq (WC.region (WL.move (v := U8 (48#8)) rfl rfl (WL.nil (WC.block ?_)))))))))
  refine WC.seq (WC.seq (WC.neU (c := 31#8) rfl rfl rfl rfl rfl rfl (by decide) (WC.neU (c := 22#8) rfl rfl rfl rfl rfl rfl (by decide) (WC.seq (WC.neU (c := 32#8) rfl rfl rfl rfl rfl rfl (by decide) (WC.seq (WC.seq (WC.neU (c := 34#8) rfl rfl rfl rfl rfl rfl (by decide) (WC.neU (c := 23#8) rfl rfl rfl rfl rfl rfl (by decide) ?_)))))))))
  refine WC.seq (WC.seq (WC.neU (c := 35#8) rfl rfl rfl rfl rfl rfl (by decide) (WC.neU (c := 24#8) rfl rfl rfl rfl rfl rfl (by decide) (WC.seq (WC.seq (WC.neU (c := 36#8) rfl rfl rfl rfl rfl rfl (by decide) (WC.neU (c := 25#8) rfl rfl rfl rfl rfl rfl (by decide) (WC.seq (WC.seq ?_)))))))))
  refine WC.neU (c := 39#8) rfl rfl rfl rfl rfl rfl (by decide) (WC.neU (c := 26#8) rfl rfl rfl rfl rfl rfl (by decide) (WC.seq (WC.seq (WC.neU (c := 40#8) rfl rfl rfl rfl rfl rfl (by decide) (WC.neU (c := 27#8) rfl rfl rfl rfl rfl rfl (by decide) (WC.seq (WC.neU (c := 50#8) rfl rfl rfl rfl rfl rfl (by decide) (WC.seq (WC.seq ?_)))))))))
  refine WC.neU (c := 45#8) rfl rfl rfl rfl rfl rfl (by decide) (WC.neU (c := 41#8) rfl rfl rfl rfl rfl rfl (by decide) (WC.seq (WC.neU (c := 46#8) rfl rfl rfl rfl rfl rfl (by decide) (WC.seq (WC.neU (c := 58#8) rfl rfl rfl rfl rfl rfl (by decide) (WC.seq (WC.seq (WC.neU (c := 47#8) rfl rfl rfl rfl rfl rfl (by decide) (WC.neU (c := 42#8) rfl rfl rfl rfl rfl rfl (by decide) ?_)))))))))
  refine WC.seq (WC.seq (WC.region (WL.bin (v := .bool (true)) rfl (vy := U8 (48#8)) rfl rfl (BinR.toB (BinR.eqlU8) (by decide)) (WL.assign (v := .bool (true)) rfl rfl (WL.nil (WC.condT rfl (WC.skip (WC.condT rfl (WC.seq ?_)))))))))
  refine WC.region (WL.call ca116 rfl rfl (unsigned_spec (.func (.func 117) #[] #[]) srlW _ (srl_fun _)) ?_)
  rintro v48 w48 ⟨k48, e48⟩
  have E1 : Ext w w48 := Mod.trans (Mod.refl _ _) (e48)
  refine WL.call ca114 rfl rfl (moved_spec (v48) (unsignedF srlW) _ (k48)) ?_
  rintro v49 w49 ⟨k49, e49⟩
  have E2 : Ext w w49 := Mod.trans (E1) (e49)
  refine WL.assign (v := v49) rfl rfl (WL.nil (WC.ret ?_))
  exact ⟨_, Res.one (v := v49) rfl rfl, k49, E2⟩
theorem reckons_49 (w : World) : CallsR Tryz.prog 88 #[U8 (49#8)] w (fun v w' => FunOk w' v (movedF (signedF sraW)) ∧ Ext w w') := by
  refine callsR_of Tryz.func88 rfl rfl rfl ?_
  refine WC.seq (WC.region (WL.assign (v := .nilFunc) rfl rfl (WL.nil (WC.seq (WC.seq (WC.region (WL.move (v := U8 (49#8)) rfl rfl (WL.nil (WC.block ?_)))))))))
  refine WC.seq (WC.seq (WC.neU (c := 31#8) rfl rfl rfl rfl rfl rfl (by decide) (WC.neU (c := 22#8) rfl rfl rfl rfl rfl rfl (by decide) (WC.seq (WC.neU (c := 32#8) rfl rfl rfl rfl rfl rfl (by decide) (WC.seq (WC.seq (WC.neU (c := 34#8) rfl rfl rfl rfl rfl rfl (by decide) (WC.neU (c := 23#8) rfl rfl rfl rfl rfl rfl (by decide) ?_)))))))))
  refine WC.seq (WC.seq (WC.neU (c := 35#8) rfl rfl rfl rfl rfl rfl (by decide) (WC.neU (c := 24#8) rfl rfl rfl rfl rfl rfl (by decide) (WC.seq (WC.seq (WC.neU (c := 36#8) rfl rfl rfl rfl rfl rfl (by decide) (WC.neU (c := 25#8) rfl rfl rfl rfl rfl rfl (by decide) (WC.seq (WC.seq ?_)))))))))
  refine WC.neU (c := 39#8) rfl rfl rfl rfl rfl rfl (by decide) (WC.neU (c := 26#8) rfl rfl rfl rfl rfl rfl (by decide) (WC.seq (WC.seq (WC.neU (c := 40#8) rfl rfl rfl rfl rfl rfl (by decide) (WC.neU (c := 27#8) rfl rfl rfl rfl rfl rfl (by decide) (WC.seq (WC.neU (c := 50#8) rfl rfl rfl rfl rfl rfl (by decide) (WC.seq (WC.seq ?_)))))))))
  refine WC.neU (c := 45#8) rfl rfl rfl rfl rfl rfl (by decide) (WC.neU (c := 41#8) rfl rfl rfl rfl rfl rfl (by decide) (WC.seq (WC.neU (c := 46#8) rfl rfl rfl rfl rfl rfl (by decide) (WC.seq (WC.neU (c := 58#8) rfl rfl rfl rfl rfl rfl (by decide) (WC.seq (WC.seq (WC.neU (c := 47#8) rfl rfl rfl rfl rfl rfl (by decide) (WC.neU (c := 42#8) rfl rfl rfl rfl rfl rfl (by decide) ?_)))))))))
  refine WC.seq (WC.seq (WC.neU (c := 48#8) rfl rfl rfl rfl rfl rfl (by decide) (WC.neU (c := 43#8) rfl rfl rfl rfl rfl rfl (by decide) (WC.seq (WC.seq (WC.region (WL.bin (v := .bool (true)) rfl (vy := U8 (49#8)) rfl rfl (BinR.toB (BinR.eqlU8) (by decide)) (WL.assign (v := .bool (true)) rfl rfl (WL.nil ?_)))))))))
  refine WC.condT rfl (WC.skip (WC.condT rfl (WC.seq (WC.region (WL.call ca113 rfl rfl (signed_spec (.func (.func 118) #[] #[]) sraW _ (sra_fun _)) ?_)))))
  rintro v53 w53 ⟨k53, e53⟩
  have E1 : Ext w w53 := Mod.trans (Mod.refl _ _) (e53)
  refine WL.call ca114 rfl rfl (moved_spec (v53) (signedF sraW) _ (k53)) ?_
  rintro v54 w54 ⟨k54, e54⟩
  have E2 : Ext w w54 := Mod.trans (E1) (e54)
  refine WL.assign (v := v54) rfl rfl (WL.nil (WC.ret ?_))
  exact ⟨_, Res.one (v := v54) rfl rfl, k54, E2⟩
theorem reckons_51 (w : World) : CallsR Tryz.prog 88 #[U8 (51#8)] w (fun v w' => FunOk w' v mulhW ∧ Ext w w') := (reckons_z (51#8) (by decide) w).mono fun _ _ h => ⟨h.1 ▸ mulh_fun _, h.2⟩
theorem reckons_52 (w : World) : CallsR Tryz.prog 88 #[U8 (52#8)] w (fun v w' => FunOk w' v mulhsuW ∧ Ext w w') := (reckons_z (52#8) (by decide) w).mono fun _ _ h => ⟨h.1 ▸ mulhsu_fun _, h.2⟩
theorem reckons_53 (w : World) : CallsR Tryz.prog 88 #[U8 (53#8)] w (fun v w' => FunOk w' v hiW ∧ Ext w w') := (reckons_z (53#8) (by decide) w).mono fun _ _ h => ⟨h.1 ▸ mulhu_fun _, h.2⟩
theorem reckons_54 (w : World) : CallsR Tryz.prog 88 #[U8 (54#8)] w (fun v w' => FunOk w' v divW ∧ Ext w w') := (reckons_z (54#8) (by decide) w).mono fun _ _ h => ⟨h.1 ▸ div_fun _, h.2⟩
theorem reckons_55 (w : World) : CallsR Tryz.prog 88 #[U8 (55#8)] w (fun v w' => FunOk w' v divuW ∧ Ext w w') := (reckons_z (55#8) (by decide) w).mono fun _ _ h => ⟨h.1 ▸ divu_fun _, h.2⟩
theorem reckons_56 (w : World) : CallsR Tryz.prog 88 #[U8 (56#8)] w (fun v w' => FunOk w' v remW ∧ Ext w w') := (reckons_z (56#8) (by decide) w).mono fun _ _ h => ⟨h.1 ▸ rem_fun _, h.2⟩
theorem reckons_57 (w : World) : CallsR Tryz.prog 88 #[U8 (57#8)] w (fun v w' => FunOk w' v remuW ∧ Ext w w') := (reckons_z (57#8) (by decide) w).mono fun _ _ h => ⟨h.1 ▸ remu_fun _, h.2⟩
theorem reckons_58 (w : World) : CallsR Tryz.prog 88 #[U8 (58#8)] w (fun v w' => FunOk w' v (signedF (fun x y => x * y)) ∧ Ext w w') := by
  refine callsR_of Tryz.func88 rfl rfl rfl ?_
  refine WC.seq (WC.region (WL.assign (v := .nilFunc) rfl rfl (WL.nil (WC.seq (WC.seq (WC.region (WL.move (v := U8 (58#8)) rfl rfl (WL.nil (WC.block ?_)))))))))
  refine WC.seq (WC.seq (WC.neU (c := 31#8) rfl rfl rfl rfl rfl rfl (by decide) (WC.neU (c := 22#8) rfl rfl rfl rfl rfl rfl (by decide) (WC.seq (WC.neU (c := 32#8) rfl rfl rfl rfl rfl rfl (by decide) (WC.seq (WC.seq (WC.neU (c := 34#8) rfl rfl rfl rfl rfl rfl (by decide) (WC.neU (c := 23#8) rfl rfl rfl rfl rfl rfl (by decide) ?_)))))))))
  refine WC.seq (WC.seq (WC.neU (c := 35#8) rfl rfl rfl rfl rfl rfl (by decide) (WC.neU (c := 24#8) rfl rfl rfl rfl rfl rfl (by decide) (WC.seq (WC.seq (WC.neU (c := 36#8) rfl rfl rfl rfl rfl rfl (by decide) (WC.neU (c := 25#8) rfl rfl rfl rfl rfl rfl (by decide) (WC.seq (WC.seq ?_)))))))))
  refine WC.neU (c := 39#8) rfl rfl rfl rfl rfl rfl (by decide) (WC.neU (c := 26#8) rfl rfl rfl rfl rfl rfl (by decide) (WC.seq (WC.seq (WC.neU (c := 40#8) rfl rfl rfl rfl rfl rfl (by decide) (WC.neU (c := 27#8) rfl rfl rfl rfl rfl rfl (by decide) (WC.seq (WC.neU (c := 50#8) rfl rfl rfl rfl rfl rfl (by decide) (WC.seq (WC.seq ?_)))))))))
  refine WC.neU (c := 45#8) rfl rfl rfl rfl rfl rfl (by decide) (WC.neU (c := 41#8) rfl rfl rfl rfl rfl rfl (by decide) (WC.seq (WC.neU (c := 46#8) rfl rfl rfl rfl rfl rfl (by decide) (WC.seq (WC.region (WL.bin (v := .bool (true)) rfl (vy := U8 (58#8)) rfl rfl (BinR.toB (BinR.eqlU8) (by decide)) (WL.assign (v := .bool (true)) rfl rfl (WL.nil (WC.condT rfl ?_)))))))))
  refine WC.seq (WC.region (WL.call ca88 rfl rfl (reckons_50 _) ?_))
  rintro v38 w38 ⟨k38, e38⟩
  have E1 : Ext w w38 := Mod.trans (Mod.refl _ _) (e38)
  refine WL.call ca113 rfl rfl (signed_spec (v38) (fun x y => x * y) _ (k38)) ?_
  rintro v39 w39 ⟨k39, e39⟩
  have E2 : Ext w w39 := Mod.trans (E1) (e39)
  refine WL.assign (v := v39) rfl rfl (WL.nil (WC.ret ?_))
  exact ⟨_, Res.one (v := v39) rfl rfl, k39, E2⟩
theorem reckons_59 (w : World) : CallsR Tryz.prog 88 #[U8 (59#8)] w (fun v w' => FunOk w' v (signedF divW) ∧ Ext w w') := by
  refine callsR_of Tryz.func88 rfl rfl rfl ?_
  refine WC.seq (WC.region (WL.assign (v := .nilFunc) rfl rfl (WL.nil (WC.seq (WC.seq (WC.region (WL.move (v := U8 (59#8)) rfl rfl (WL.nil (WC.block ?_)))))))))
  refine WC.seq (WC.seq (WC.neU (c := 31#8) rfl rfl rfl rfl rfl rfl (by decide) (WC.neU (c := 22#8) rfl rfl rfl rfl rfl rfl (by decide) (WC.seq (WC.neU (c := 32#8) rfl rfl rfl rfl rfl rfl (by decide) (WC.seq (WC.seq (WC.neU (c := 34#8) rfl rfl rfl rfl rfl rfl (by decide) (WC.neU (c := 23#8) rfl rfl rfl rfl rfl rfl (by decide) ?_)))))))))
  refine WC.seq (WC.seq (WC.neU (c := 35#8) rfl rfl rfl rfl rfl rfl (by decide) (WC.neU (c := 24#8) rfl rfl rfl rfl rfl rfl (by decide) (WC.seq (WC.seq (WC.neU (c := 36#8) rfl rfl rfl rfl rfl rfl (by decide) (WC.neU (c := 25#8) rfl rfl rfl rfl rfl rfl (by decide) (WC.seq (WC.seq ?_)))))))))
  refine WC.neU (c := 39#8) rfl rfl rfl rfl rfl rfl (by decide) (WC.neU (c := 26#8) rfl rfl rfl rfl rfl rfl (by decide) (WC.seq (WC.seq (WC.neU (c := 40#8) rfl rfl rfl rfl rfl rfl (by decide) (WC.neU (c := 27#8) rfl rfl rfl rfl rfl rfl (by decide) (WC.seq (WC.neU (c := 50#8) rfl rfl rfl rfl rfl rfl (by decide) (WC.seq (WC.seq ?_)))))))))
  refine WC.neU (c := 45#8) rfl rfl rfl rfl rfl rfl (by decide) (WC.neU (c := 41#8) rfl rfl rfl rfl rfl rfl (by decide) (WC.seq (WC.neU (c := 46#8) rfl rfl rfl rfl rfl rfl (by decide) (WC.seq (WC.neU (c := 58#8) rfl rfl rfl rfl rfl rfl (by decide) (WC.seq (WC.seq (WC.neU (c := 47#8) rfl rfl rfl rfl rfl rfl (by decide) (WC.neU (c := 42#8) rfl rfl rfl rfl rfl rfl (by decide) ?_)))))))))
  refine WC.seq (WC.seq (WC.neU (c := 48#8) rfl rfl rfl rfl rfl rfl (by decide) (WC.neU (c := 43#8) rfl rfl rfl rfl rfl rfl (by decide) (WC.seq (WC.seq (WC.neU (c := 49#8) rfl rfl rfl rfl rfl rfl (by decide) (WC.neU (c := 44#8) rfl rfl rfl rfl rfl rfl (by decide) (WC.seq (WC.region ?_)))))))))
  refine WL.bin (v := .bool (true)) rfl (vy := U8 (59#8)) rfl rfl (BinR.toB (BinR.eqlU8) (by decide)) (WL.assign (v := .bool (true)) rfl rfl (WL.nil (WC.condT rfl (WC.seq (WC.region (WL.call ca113 rfl rfl (signed_spec (.func (.func 119) #[] #[]) divW _ (div_fun _)) ?_))))))
  rintro v57 w57 ⟨k57, e57⟩
  have E1 : Ext w w57 := Mod.trans (Mod.refl _ _) (e57)
  refine WL.assign (v := v57) rfl rfl (WL.nil (WC.ret ?_))
  exact ⟨_, Res.one (v := v57) rfl rfl, k57, E1⟩
theorem reckons_60 (w : World) : CallsR Tryz.prog 88 #[U8 (60#8)] w (fun v w' => FunOk w' v (unsignedF divuW) ∧ Ext w w') := by
  refine callsR_of Tryz.func88 rfl rfl rfl ?_
  refine WC.seq (WC.region (WL.assign (v := .nilFunc) rfl rfl (WL.nil (WC.seq (WC.seq (WC.region (WL.move (v := U8 (60#8)) rfl rfl (WL.nil (WC.block ?_)))))))))
  refine WC.seq (WC.seq (WC.neU (c := 31#8) rfl rfl rfl rfl rfl rfl (by decide) (WC.neU (c := 22#8) rfl rfl rfl rfl rfl rfl (by decide) (WC.seq (WC.neU (c := 32#8) rfl rfl rfl rfl rfl rfl (by decide) (WC.seq (WC.seq (WC.neU (c := 34#8) rfl rfl rfl rfl rfl rfl (by decide) (WC.neU (c := 23#8) rfl rfl rfl rfl rfl rfl (by decide) ?_)))))))))
  refine WC.seq (WC.seq (WC.neU (c := 35#8) rfl rfl rfl rfl rfl rfl (by decide) (WC.neU (c := 24#8) rfl rfl rfl rfl rfl rfl (by decide) (WC.seq (WC.seq (WC.neU (c := 36#8) rfl rfl rfl rfl rfl rfl (by decide) (WC.neU (c := 25#8) rfl rfl rfl rfl rfl rfl (by decide) (WC.seq (WC.seq ?_)))))))))
  refine WC.neU (c := 39#8) rfl rfl rfl rfl rfl rfl (by decide) (WC.neU (c := 26#8) rfl rfl rfl rfl rfl rfl (by decide) (WC.seq (WC.seq (WC.neU (c := 40#8) rfl rfl rfl rfl rfl rfl (by decide) (WC.neU (c := 27#8) rfl rfl rfl rfl rfl rfl (by decide) (WC.seq (WC.neU (c := 50#8) rfl rfl rfl rfl rfl rfl (by decide) (WC.seq (WC.seq ?_)))))))))
  refine WC.neU (c := 45#8) rfl rfl rfl rfl rfl rfl (by decide) (WC.neU (c := 41#8) rfl rfl rfl rfl rfl rfl (by decide) (WC.seq (WC.neU (c := 46#8) rfl rfl rfl rfl rfl rfl (by decide) (WC.seq (WC.neU (c := 58#8) rfl rfl rfl rfl rfl rfl (by decide) (WC.seq (WC.seq (WC.neU (c := 47#8) rfl rfl rfl rfl rfl rfl (by decide) (WC.neU (c := 42#8) rfl rfl rfl rfl rfl rfl (by decide) ?_)))))))))
  refine WC.seq (WC.seq (WC.neU (c := 48#8) rfl rfl rfl rfl rfl rfl (by decide) (WC.neU (c := 43#8) rfl rfl rfl rfl rfl rfl (by decide) (WC.seq (WC.seq (WC.neU (c := 49#8) rfl rfl rfl rfl rfl rfl (by decide) (WC.neU (c := 44#8) rfl rfl rfl rfl rfl rfl (by decide) (WC.seq (WC.neU (c := 59#8) rfl rfl rfl rfl rfl rfl (by decide) ?_)))))))))
  refine WC.seq (WC.region (WL.bin (v := .bool (true)) rfl (vy := U8 (60#8)) rfl rfl (BinR.toB (BinR.eqlU8) (by decide)) (WL.assign (v := .bool (true)) rfl rfl (WL.nil (WC.condT rfl (WC.seq (WC.region (WL.call ca116 rfl rfl (unsigned_spec (.func (.func 120) #[] #[]) divuW _ (divu_fun _)) ?_))))))))
  rintro v60 w60 ⟨k60, e60⟩
  have E1 : Ext w w60 := Mod.trans (Mod.refl _ _) (e60)
  refine WL.assign (v := v60) rfl rfl (WL.nil (WC.ret ?_))
  exact ⟨_, Res.one (v := v60) rfl rfl, k60, E1⟩
theorem reckons_61 (w : World) : CallsR Tryz.prog 88 #[U8 (61#8)] w (fun v w' => FunOk w' v (signedF remW) ∧ Ext w w') := by
  refine callsR_of Tryz.func88 rfl rfl rfl ?_
  refine WC.seq (WC.region (WL.assign (v := .nilFunc) rfl rfl (WL.nil (WC.seq (WC.seq (WC.region (WL.move (v := U8 (61#8)) rfl rfl (WL.nil (WC.block ?_)))))))))
  refine WC.seq (WC.seq (WC.neU (c := 31#8) rfl rfl rfl rfl rfl rfl (by decide) (WC.neU (c := 22#8) rfl rfl rfl rfl rfl rfl (by decide) (WC.seq (WC.neU (c := 32#8) rfl rfl rfl rfl rfl rfl (by decide) (WC.seq (WC.seq (WC.neU (c := 34#8) rfl rfl rfl rfl rfl rfl (by decide) (WC.neU (c := 23#8) rfl rfl rfl rfl rfl rfl (by decide) ?_)))))))))
  refine WC.seq (WC.seq (WC.neU (c := 35#8) rfl rfl rfl rfl rfl rfl (by decide) (WC.neU (c := 24#8) rfl rfl rfl rfl rfl rfl (by decide) (WC.seq (WC.seq (WC.neU (c := 36#8) rfl rfl rfl rfl rfl rfl (by decide) (WC.neU (c := 25#8) rfl rfl rfl rfl rfl rfl (by decide) (WC.seq (WC.seq ?_)))))))))
  refine WC.neU (c := 39#8) rfl rfl rfl rfl rfl rfl (by decide) (WC.neU (c := 26#8) rfl rfl rfl rfl rfl rfl (by decide) (WC.seq (WC.seq (WC.neU (c := 40#8) rfl rfl rfl rfl rfl rfl (by decide) (WC.neU (c := 27#8) rfl rfl rfl rfl rfl rfl (by decide) (WC.seq (WC.neU (c := 50#8) rfl rfl rfl rfl rfl rfl (by decide) (WC.seq (WC.seq ?_)))))))))
  refine WC.neU (c := 45#8) rfl rfl rfl rfl rfl rfl (by decide) (WC.neU (c := 41#8) rfl rfl rfl rfl rfl rfl (by decide) (WC.seq (WC.neU (c := 46#8) rfl rfl rfl rfl rfl rfl (by decide) (WC.seq (WC.neU (c := 58#8) rfl rfl rfl rfl rfl rfl (by decide) (WC.seq (WC.seq (WC.neU (c := 47#8) rfl rfl rfl rfl rfl rfl (by decide) (WC.neU (c := 42#8) rfl rfl rfl rfl rfl rfl (by decide) ?_)))))))))
  refine WC.seq (WC.seq (WC.neU (c := 48#8) rfl rfl rfl rfl rfl rfl (by decide) (WC.neU (c := 43#8) rfl rfl rfl rfl rfl rfl (by decide) (WC.seq (WC.seq (WC.neU (c := 49#8) rfl rfl rfl rfl rfl rfl (by decide) (WC.neU (c := 44#8) rfl rfl rfl rfl rfl rfl (by decide) (WC.seq (WC.neU (c := 59#8) rfl rfl rfl rfl rfl rfl (by decide) ?_)))))))))
  refine WC.seq (WC.neU (c := 60#8) rfl rfl rfl rfl rfl rfl (by decide) (WC.seq (WC.region (WL.bin (v := .bool (true)) rfl (vy := U8 (61#8)) rfl rfl (BinR.toB (BinR.eqlU8) (by decide)) (WL.assign (v := .bool (true)) rfl rfl (WL.nil (WC.condT rfl (WC.seq (WC.region ?_)))))))))
  refine WL.call ca113 rfl rfl (signed_spec (.func (.func 121) #[] #[]) remW _ (rem_fun _)) ?_
  rintro v63 w63 ⟨k63, e63⟩
  have E1 : Ext w w63 := Mod.trans (Mod.refl _ _) (e63)
  refine WL.assign (v := v63) rfl rfl (WL.nil (WC.ret ?_))
  exact ⟨_, Res.one (v := v63) rfl rfl, k63, E1⟩
theorem reckons_62 (w : World) : CallsR Tryz.prog 88 #[U8 (62#8)] w (fun v w' => FunOk w' v (unsignedF remuW) ∧ Ext w w') := by
  refine callsR_of Tryz.func88 rfl rfl rfl ?_
  refine WC.seq (WC.region (WL.assign (v := .nilFunc) rfl rfl (WL.nil (WC.seq (WC.seq (WC.region (WL.move (v := U8 (62#8)) rfl rfl (WL.nil (WC.block ?_)))))))))
  refine WC.seq (WC.seq (WC.neU (c := 31#8) rfl rfl rfl rfl rfl rfl (by decide) (WC.neU (c := 22#8) rfl rfl rfl rfl rfl rfl (by decide) (WC.seq (WC.neU (c := 32#8) rfl rfl rfl rfl rfl rfl (by decide) (WC.seq (WC.seq (WC.neU (c := 34#8) rfl rfl rfl rfl rfl rfl (by decide) (WC.neU (c := 23#8) rfl rfl rfl rfl rfl rfl (by decide) ?_)))))))))
  refine WC.seq (WC.seq (WC.neU (c := 35#8) rfl rfl rfl rfl rfl rfl (by decide) (WC.neU (c := 24#8) rfl rfl rfl rfl rfl rfl (by decide) (WC.seq (WC.seq (WC.neU (c := 36#8) rfl rfl rfl rfl rfl rfl (by decide) (WC.neU (c := 25#8) rfl rfl rfl rfl rfl rfl (by decide) (WC.seq (WC.seq ?_)))))))))
  refine WC.neU (c := 39#8) rfl rfl rfl rfl rfl rfl (by decide) (WC.neU (c := 26#8) rfl rfl rfl rfl rfl rfl (by decide) (WC.seq (WC.seq (WC.neU (c := 40#8) rfl rfl rfl rfl rfl rfl (by decide) (WC.neU (c := 27#8) rfl rfl rfl rfl rfl rfl (by decide) (WC.seq (WC.neU (c := 50#8) rfl rfl rfl rfl rfl rfl (by decide) (WC.seq (WC.seq ?_)))))))))
  refine WC.neU (c := 45#8) rfl rfl rfl rfl rfl rfl (by decide) (WC.neU (c := 41#8) rfl rfl rfl rfl rfl rfl (by decide) (WC.seq (WC.neU (c := 46#8) rfl rfl rfl rfl rfl rfl (by decide) (WC.seq (WC.neU (c := 58#8) rfl rfl rfl rfl rfl rfl (by decide) (WC.seq (WC.seq (WC.neU (c := 47#8) rfl rfl rfl rfl rfl rfl (by decide) (WC.neU (c := 42#8) rfl rfl rfl rfl rfl rfl (by decide) ?_)))))))))
  refine WC.seq (WC.seq (WC.neU (c := 48#8) rfl rfl rfl rfl rfl rfl (by decide) (WC.neU (c := 43#8) rfl rfl rfl rfl rfl rfl (by decide) (WC.seq (WC.seq (WC.neU (c := 49#8) rfl rfl rfl rfl rfl rfl (by decide) (WC.neU (c := 44#8) rfl rfl rfl rfl rfl rfl (by decide) (WC.seq (WC.neU (c := 59#8) rfl rfl rfl rfl rfl rfl (by decide) ?_)))))))))
  refine WC.seq (WC.neU (c := 60#8) rfl rfl rfl rfl rfl rfl (by decide) (WC.seq (WC.neU (c := 61#8) rfl rfl rfl rfl rfl rfl (by decide) (WC.seq (WC.region (WL.bin (v := .bool (true)) rfl (vy := U8 (62#8)) rfl rfl (BinR.toB (BinR.eqlU8) (by decide)) (WL.assign (v := .bool (true)) rfl rfl (WL.nil (WC.condT rfl ?_)))))))))
  refine WC.seq (WC.region (WL.call ca116 rfl rfl (unsigned_spec (.func (.func 122) #[] #[]) remuW _ (remu_fun _)) ?_))
  rintro v66 w66 ⟨k66, e66⟩
  have E1 : Ext w w66 := Mod.trans (Mod.refl _ _) (e66)
  refine WL.assign (v := v66) rfl rfl (WL.nil (WC.ret ?_))
  exact ⟨_, Res.one (v := v66) rfl rfl, k66, E1⟩
theorem reckons_63 (w : World) : CallsR Tryz.prog 88 #[U8 (63#8)] w (fun v w' => v = .nilFunc ∧ Ext w w') := (reckons_z (63#8) (by decide) w).mono fun _ _ h => ⟨h.1, h.2⟩
theorem reckons_64 (w : World) : CallsR Tryz.prog 88 #[U8 (64#8)] w (fun v w' => v = .nilFunc ∧ Ext w w') := (reckons_z (64#8) (by decide) w).mono fun _ _ h => ⟨h.1, h.2⟩
theorem reckons_65 (w : World) : CallsR Tryz.prog 88 #[U8 (65#8)] w (fun v w' => v = .nilFunc ∧ Ext w w') := (reckons_z (65#8) (by decide) w).mono fun _ _ h => ⟨h.1, h.2⟩
end Go.Proofs.N
end
