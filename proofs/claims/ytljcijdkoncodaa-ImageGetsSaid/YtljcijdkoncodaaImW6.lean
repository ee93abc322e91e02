import Derived.Test.YtljcijdkoncodaaImgBig
import Derived.Test.YtljcijdkoncodaaRows
import Derived.Test.YtljcijdkoncodaaImW5
set_option linter.unusedSimpArgs false
set_option linter.unusedVariables false
namespace Go.Proofs.I
open Go Go.Ux Go.Ux.Image Go.Proofs
theorem el23 : elemT Try.prog 23 = some 42 := by kernel_rfl
theorem sz42 : sizeT Try.prog 42 = some 1 := by kernel_rfl
theorem ag42 : isAggT Try.prog 42 = some false := by kernel_rfl

theorem mixed : Try.prog.follows .mixedOrders = true := by kernel_rfl

theorem eq_of_u8 {a b : UInt8} (h : (((a.toNat : Nat) : Int) != ((b.toNat : Nat) : Int)) = false) : a = b := by
  have h1 : (a.toNat : Int) = (b.toNat : Int) := by simpa using h
  exact UInt8.toNat_inj.1 (by omega)
theorem eq_of_u32 {a b : BitVec 32} (h : (((a.toNat : Nat) : Int) != ((b.toNat : Nat) : Int)) = false) : a = b := by
  have h1 : (a.toNat : Int) = (b.toNat : Int) := by simpa using h
  exact BitVec.eq_of_toNat_eq (by omega)
theorem word_get (l : List (BitVec 32)) (j : Nat) (h : j < l.length) : (wordCells l)[j]? = some (.int .u32 ((l[j].toNat : Nat) : Int)) := by simp [wordCells, h]
theorem eq_step {α : Type} (x y : List α) (j : Nat) (hx : j < x.length) (hy : j < y.length) (h : x.take j = y.take j) (e : x[j] = y[j]) : x.take (j + 1) = y.take (j + 1) := by
  rw [List.take_succ_eq_append_getElem hx, List.take_succ_eq_append_getElem hy, h, e]

theorem equalB (u z : Value) (x y : List UInt8) (w : World) (hu : Sl w u 1 x.length (bs x)) (hz : Sl w z 1 y.length (bs y)) (hx : x.length ≤ 1000000000) (hy : y.length ≤ 1000000000) : CallsR Try.prog 31 #[u, z] w (fun v w' => v = .bool (x == y) ∧ Ext w w') := by
  refine callsR_of Try.func31 rfl rfl rfl ?_
  refine WC.seq ?_
  refine WC.region ?_
  refine WL.assign (v := .bool (false)) rfl rfl ?_
  refine WL.nil ?_
  refine WC.seq ?_
  refine WC.seq ?_
  refine WC.region ?_
  refine WL.move (v := u) rfl rfl ?_
  refine WL.lenSl (sz := 1) (m := x.length) (xs := bs x) el28 rfl (hu) rfl ?_
  refine WL.move (v := z) rfl rfl ?_
  refine WL.lenSl (sz := 1) (m := y.length) (xs := bs y) el28 rfl (hz) rfl ?_
  refine WL.bin rfl rfl rfl (BinR.neq) ?_
  refine WL.nil ?_
  refine WC.cond rfl (fun hc10 => ?_) (fun hc10 => ?_)
  · have hne : x ≠ y := by intro e; subst e; exact absurd hc10 (by simp)
    refine WC.seq ?_
    refine WC.region ?_
    refine WL.assign (v := .bool (false)) rfl rfl ?_
    refine WL.nil ?_
    refine WC.ret ?_
    exact ⟨_, Res.one (v := .bool (false)) rfl rfl, congrArg Value.bool (by first | exact (beq_eq_false_iff_ne.2 hne).symm | exact (beq_iff_eq.2 hall).symm), Mod.refl _ _⟩
  · have hlen : x.length = y.length := by have := hc10; simp at this; omega
    refine WC.skip ?_
    refine WC.seq ?_
    refine WC.seq ?_
    refine WC.region ?_
    refine WL.move (v := u) rfl rfl ?_
    refine WL.lenSl (sz := 1) (m := x.length) (xs := bs x) el28 rfl (hu) rfl ?_
    refine WL.move (v := IN (0)) rfl rfl ?_
    refine WL.nil ?_
    refine WC.block ?_
    refine WC.loop (fun k f w_ => ∃ j, (k + j = x.length) ∧ (x.take j = y.take j) ∧ f 0 = u ∧ f 1 = z ∧ f 6 = u ∧ f 7 = IN (x.length) ∧ f 8 = z ∧ f 9 = IN (y.length) ∧ f 10 = .bool ((((x.length : Nat) : Int) != ((y.length : Nat) : Int))) ∧ f 11 = u ∧ f 12 = IN (x.length) ∧ f 13 = IN (j) ∧ (Ext w w_)) (x.length) ?_ ?_
    · exact ⟨(0), by omega, rfl, rfl, rfl, rfl, rfl, rfl, rfl, rfl, rfl, rfl, rfl, Mod.refl _ _⟩
    rintro k f1 wr ⟨j, hk1, ht, h0_1, h1_1, h6_1, h7_1, h8_1, h9_1, h10_1, h11_1, h12_1, h13_1, hE⟩
    refine WC.seq ?_
    refine WC.region ?_
    refine WL.bin h13_1 h12_1 rfl (BinR.lss) ?_
    refine WL.nil ?_
    refine WC.seq ?_
    refine WC.cond rfl (fun hc14 => ?_) (fun hc14 => ?_)
    · have hj : j < x.length := by have := of_decide_eq_true hc14; omega
      have hj2 : j < y.length := by omega
      obtain ⟨bu, ou, cu, eu, hcu⟩ := hu.at (by omega)
      obtain ⟨bz, oz, cz, ez, hcv⟩ := hz.at (by omega)
      refine WC.skip ?_
      refine WC.seq ?_
      refine WC.block ?_
      refine WC.seq ?_
      refine WC.region ?_
      refine WL.move (v := IN (j)) h13_1 rfl ?_
      refine WL.assign (v := IN (j)) rfl rfl ?_
      refine WL.nil ?_
      refine WC.seq ?_
      refine WC.draw (fun w_ => Ext wr w_) 9 rfl mixed ?_
      intro wd_6 ed_6
      have R1 : Ext wr wd_6 := Mod.trans (Mod.refl _ _) (ed_6)
      have R2 : Ext wr wd_6 := Mod.trans (Mod.refl _ _) (ed_6)
      have E3 : Ext w wd_6 := Mod.trans (hE) (ed_6)
      refine WA.take (i := 0) (m' := 1) (v := u) rfl rfl rfl rfl (by kernel_rfl) rfl (fun _ _ _ h => h) (fun wx hS => ?_) (R2) ?_
      · have E4 : Ext w wx := Mod.trans (hE) (hS)
        refine WL.move (v := u) h0_1 rfl ?_
        exact WL.nil ⟨rfl, rfl, rfl⟩
      refine WA.take (i := 1) (m' := 3) (v := IN (j)) rfl rfl rfl rfl (by kernel_rfl) rfl (fun _ _ _ h => h) (fun wx hS => ?_) (R2) ?_
      · have E5 : Ext w wx := Mod.trans (hE) (hS)
        refine WL.move (v := IN (j)) rfl rfl ?_
        exact WL.nil ⟨rfl, rfl, rfl⟩
      refine WA.take (i := 2) (m' := 7) (v := ptr bu (ou + (j) * 1)) rfl rfl rfl rfl (by kernel_rfl) rfl (fun _ _ _ h => h) (fun wx hS => ?_) (R2) ?_
      · have E6 : Ext w wx := Mod.trans (hE) (hS)
        refine WL.indexAddr (i := j) (b := bu) (o := ou) el28 sz5 (Eq.trans (rfl) eu) rfl (by omega) rfl ?_
        exact WL.nil ⟨rfl, rfl, rfl⟩
      refine WA.take (i := 3) (m' := 15) (v := .int .u8 ((x[j]).toNat)) rfl rfl rfl rfl (by kernel_rfl) rfl (fun _ _ _ h => h) (fun wx hS => ?_) (R2) ?_
      · have E7 : Ext w wx := Mod.trans (hE) (hS)
        refine WL.load1 rfl ag5 ((hcu.ext (E7)) (j * 1) _ (by rw [Nat.mul_one]; exact bs_get x j (by omega))) rfl ?_
        exact WL.nil ⟨rfl, rfl, rfl⟩
      refine WA.take (i := 4) (m' := 31) (v := z) rfl rfl rfl rfl (by kernel_rfl) rfl (fun _ _ _ h => h) (fun wx hS => ?_) (R2) ?_
      · have E8 : Ext w wx := Mod.trans (hE) (hS)
        refine WL.move (v := z) h1_1 rfl ?_
        exact WL.nil ⟨rfl, rfl, rfl⟩
      refine WA.take (i := 5) (m' := 63) (v := IN (j)) rfl rfl rfl rfl (by kernel_rfl) rfl (fun _ _ _ h => h) (fun wx hS => ?_) (R2) ?_
      · have E9 : Ext w wx := Mod.trans (hE) (hS)
        refine WL.move (v := IN (j)) rfl rfl ?_
        exact WL.nil ⟨rfl, rfl, rfl⟩
      refine WA.take (i := 6) (m' := 127) (v := ptr bz (oz + (j) * 1)) rfl rfl rfl rfl (by kernel_rfl) rfl (fun _ _ _ h => h) (fun wx hS => ?_) (R2) ?_
      · have E10 : Ext w wx := Mod.trans (hE) (hS)
        refine WL.indexAddr (i := j) (b := bz) (o := oz) el28 sz5 (Eq.trans (rfl) ez) rfl (by omega) rfl ?_
        exact WL.nil ⟨rfl, rfl, rfl⟩
      refine WA.take (i := 7) (m' := 255) (v := .int .u8 ((y[j]).toNat)) rfl rfl rfl rfl (by kernel_rfl) rfl (fun _ _ _ h => h) (fun wx hS => ?_) (R2) ?_
      · have E11 : Ext w wx := Mod.trans (hE) (hS)
        refine WL.load1 rfl ag5 ((hcv.ext (E11)) (j * 1) _ (by rw [Nat.mul_one]; exact bs_get y j (by omega))) rfl ?_
        exact WL.nil ⟨rfl, rfl, rfl⟩
      refine WA.take (i := 8) (m' := 511) (v := .bool ((((x[j]).toNat : Int) != ((y[j]).toNat : Int)))) rfl rfl rfl rfl (by kernel_rfl) rfl (fun _ _ _ h => h) (fun wx hS => ?_) (R2) ?_
      · have E12 : Ext w wx := Mod.trans (hE) (hS)
        refine WL.bin rfl rfl rfl (BinR.neq) ?_
        exact WL.nil ⟨rfl, rfl, rfl⟩
      refine WA.done (by kernel_rfl) ?_
      refine WC.cond rfl (fun hc24 => ?_) (fun hc24 => ?_)
      · have hne : x ≠ y := by intro e; subst e; simp at hc24
        refine WC.seq ?_
        refine WC.region ?_
        refine WL.assign (v := .bool (false)) rfl rfl ?_
        refine WL.nil ?_
        refine WC.ret ?_
        exact ⟨_, Res.one (v := .bool (false)) rfl rfl, congrArg Value.bool (by first | exact (beq_eq_false_iff_ne.2 hne).symm | exact (beq_iff_eq.2 hall).symm), E3⟩
      · have heq : x[j] = y[j] := eq_of_u8 hc24
        refine WC.skip ?_
        refine WC.region ?_
        refine WL.bin h13_1 rfl rfl (BinR.succN (by omega)) ?_
        refine WL.move (v := IN (j + 1)) rfl rfl ?_
        refine WL.nil ?_
        exact ⟨k - 1, by omega, (j + 1), by omega, eq_step x y j (by omega) (by omega) ht heq, h0_1, h1_1, h6_1, h7_1, h8_1, h9_1, h10_1, h11_1, h12_1, rfl, E3⟩
    · have hj : x.length ≤ j := by have := of_decide_eq_false hc14; omega
      have hall : x = y := by rwa [List.take_of_length_le (by omega), List.take_of_length_le (by omega)] at ht
      refine WC.exit ?_
      refine WC.seq ?_
      refine WC.region ?_
      refine WL.assign (v := .bool (true)) rfl rfl ?_
      refine WL.nil ?_
      refine WC.ret ?_
      exact ⟨_, Res.one (v := .bool (true)) rfl rfl, congrArg Value.bool (by first | exact (beq_eq_false_iff_ne.2 hne).symm | exact (beq_iff_eq.2 hall).symm), hE⟩

theorem equalW (u z : Value) (x y : List (BitVec 32)) (w : World) (hu : Sl w u 1 x.length (wordCells x)) (hz : Sl w z 1 y.length (wordCells y)) (hx : x.length ≤ 1000000000) (hy : y.length ≤ 1000000000) : CallsR Try.prog 33 #[u, z] w (fun v w' => v = .bool (x == y) ∧ Ext w w') := by
  refine callsR_of Try.func33 rfl rfl rfl ?_
  refine WC.seq ?_
  refine WC.region ?_
  refine WL.assign (v := .bool (false)) rfl rfl ?_
  refine WL.nil ?_
  refine WC.seq ?_
  refine WC.seq ?_
  refine WC.region ?_
  refine WL.move (v := u) rfl rfl ?_
  refine WL.lenSl (sz := 1) (m := x.length) (xs := wordCells x) el23 rfl (hu) rfl ?_
  refine WL.move (v := z) rfl rfl ?_
  refine WL.lenSl (sz := 1) (m := y.length) (xs := wordCells y) el23 rfl (hz) rfl ?_
  refine WL.bin rfl rfl rfl (BinR.neq) ?_
  refine WL.nil ?_
  refine WC.cond rfl (fun hc10 => ?_) (fun hc10 => ?_)
  · have hne : x ≠ y := by intro e; subst e; exact absurd hc10 (by simp)
    refine WC.seq ?_
    refine WC.region ?_
    refine WL.assign (v := .bool (false)) rfl rfl ?_
    refine WL.nil ?_
    refine WC.ret ?_
    exact ⟨_, Res.one (v := .bool (false)) rfl rfl, congrArg Value.bool (by first | exact (beq_eq_false_iff_ne.2 hne).symm | exact (beq_iff_eq.2 hall).symm), Mod.refl _ _⟩
  · have hlen : x.length = y.length := by have := hc10; simp at this; omega
    refine WC.skip ?_
    refine WC.seq ?_
    refine WC.seq ?_
    refine WC.region ?_
    refine WL.move (v := u) rfl rfl ?_
    refine WL.lenSl (sz := 1) (m := x.length) (xs := wordCells x) el23 rfl (hu) rfl ?_
    refine WL.move (v := IN (0)) rfl rfl ?_
    refine WL.nil ?_
    refine WC.block ?_
    refine WC.loop (fun k f w_ => ∃ j, (k + j = x.length) ∧ (x.take j = y.take j) ∧ f 0 = u ∧ f 1 = z ∧ f 6 = u ∧ f 7 = IN (x.length) ∧ f 8 = z ∧ f 9 = IN (y.length) ∧ f 10 = .bool ((((x.length : Nat) : Int) != ((y.length : Nat) : Int))) ∧ f 11 = u ∧ f 12 = IN (x.length) ∧ f 13 = IN (j) ∧ (Ext w w_)) (x.length) ?_ ?_
    · exact ⟨(0), by omega, rfl, rfl, rfl, rfl, rfl, rfl, rfl, rfl, rfl, rfl, rfl, Mod.refl _ _⟩
    rintro k f1 wr ⟨j, hk1, ht, h0_1, h1_1, h6_1, h7_1, h8_1, h9_1, h10_1, h11_1, h12_1, h13_1, hE⟩
    refine WC.seq ?_
    refine WC.region ?_
    refine WL.bin h13_1 h12_1 rfl (BinR.lss) ?_
    refine WL.nil ?_
    refine WC.seq ?_
    refine WC.cond rfl (fun hc14 => ?_) (fun hc14 => ?_)
    · have hj : j < x.length := by have := of_decide_eq_true hc14; omega
      have hj2 : j < y.length := by omega
      obtain ⟨bu, ou, cu, eu, hcu⟩ := hu.at (by omega)
      obtain ⟨bz, oz, cz, ez, hcv⟩ := hz.at (by omega)
      refine WC.skip ?_
      refine WC.seq ?_
      refine WC.block ?_
      refine WC.seq ?_
      refine WC.region ?_
      refine WL.move (v := IN (j)) h13_1 rfl ?_
      refine WL.assign (v := IN (j)) rfl rfl ?_
      refine WL.nil ?_
      refine WC.seq ?_
      refine WC.draw (fun w_ => Ext wr w_) 9 rfl mixed ?_
      intro wd_6 ed_6
      have R1 : Ext wr wd_6 := Mod.trans (Mod.refl _ _) (ed_6)
      have R2 : Ext wr wd_6 := Mod.trans (Mod.refl _ _) (ed_6)
      have E3 : Ext w wd_6 := Mod.trans (hE) (ed_6)
      refine WA.take (i := 0) (m' := 1) (v := u) rfl rfl rfl rfl (by kernel_rfl) rfl (fun _ _ _ h => h) (fun wx hS => ?_) (R2) ?_
      · have E4 : Ext w wx := Mod.trans (hE) (hS)
        refine WL.move (v := u) h0_1 rfl ?_
        exact WL.nil ⟨rfl, rfl, rfl⟩
      refine WA.take (i := 1) (m' := 3) (v := IN (j)) rfl rfl rfl rfl (by kernel_rfl) rfl (fun _ _ _ h => h) (fun wx hS => ?_) (R2) ?_
      · have E5 : Ext w wx := Mod.trans (hE) (hS)
        refine WL.move (v := IN (j)) rfl rfl ?_
        exact WL.nil ⟨rfl, rfl, rfl⟩
      refine WA.take (i := 2) (m' := 7) (v := ptr bu (ou + (j) * 1)) rfl rfl rfl rfl (by kernel_rfl) rfl (fun _ _ _ h => h) (fun wx hS => ?_) (R2) ?_
      · have E6 : Ext w wx := Mod.trans (hE) (hS)
        refine WL.indexAddr (i := j) (b := bu) (o := ou) el23 sz42 (Eq.trans (rfl) eu) rfl (by omega) rfl ?_
        exact WL.nil ⟨rfl, rfl, rfl⟩
      refine WA.take (i := 3) (m' := 15) (v := .int .u32 ((x[j]).toNat)) rfl rfl rfl rfl (by kernel_rfl) rfl (fun _ _ _ h => h) (fun wx hS => ?_) (R2) ?_
      · have E7 : Ext w wx := Mod.trans (hE) (hS)
        refine WL.load1 rfl ag42 ((hcu.ext (E7)) (j * 1) _ (by rw [Nat.mul_one]; exact word_get x j (by omega))) rfl ?_
        exact WL.nil ⟨rfl, rfl, rfl⟩
      refine WA.take (i := 4) (m' := 31) (v := z) rfl rfl rfl rfl (by kernel_rfl) rfl (fun _ _ _ h => h) (fun wx hS => ?_) (R2) ?_
      · have E8 : Ext w wx := Mod.trans (hE) (hS)
        refine WL.move (v := z) h1_1 rfl ?_
        exact WL.nil ⟨rfl, rfl, rfl⟩
      refine WA.take (i := 5) (m' := 63) (v := IN (j)) rfl rfl rfl rfl (by kernel_rfl) rfl (fun _ _ _ h => h) (fun wx hS => ?_) (R2) ?_
      · have E9 : Ext w wx := Mod.trans (hE) (hS)
        refine WL.move (v := IN (j)) rfl rfl ?_
        exact WL.nil ⟨rfl, rfl, rfl⟩
      refine WA.take (i := 6) (m' := 127) (v := ptr bz (oz + (j) * 1)) rfl rfl rfl rfl (by kernel_rfl) rfl (fun _ _ _ h => h) (fun wx hS => ?_) (R2) ?_
      · have E10 : Ext w wx := Mod.trans (hE) (hS)
        refine WL.indexAddr (i := j) (b := bz) (o := oz) el23 sz42 (Eq.trans (rfl) ez) rfl (by omega) rfl ?_
        exact WL.nil ⟨rfl, rfl, rfl⟩
      refine WA.take (i := 7) (m' := 255) (v := .int .u32 ((y[j]).toNat)) rfl rfl rfl rfl (by kernel_rfl) rfl (fun _ _ _ h => h) (fun wx hS => ?_) (R2) ?_
      · have E11 : Ext w wx := Mod.trans (hE) (hS)
        refine WL.load1 rfl ag42 ((hcv.ext (E11)) (j * 1) _ (by rw [Nat.mul_one]; exact word_get y j (by omega))) rfl ?_
        exact WL.nil ⟨rfl, rfl, rfl⟩
      refine WA.take (i := 8) (m' := 511) (v := .bool ((((x[j]).toNat : Int) != ((y[j]).toNat : Int)))) rfl rfl rfl rfl (by kernel_rfl) rfl (fun _ _ _ h => h) (fun wx hS => ?_) (R2) ?_
      · have E12 : Ext w wx := Mod.trans (hE) (hS)
        refine WL.bin rfl rfl rfl (BinR.neq) ?_
        exact WL.nil ⟨rfl, rfl, rfl⟩
      refine WA.done (by kernel_rfl) ?_
      refine WC.cond rfl (fun hc24 => ?_) (fun hc24 => ?_)
      · have hne : x ≠ y := by intro e; subst e; simp at hc24
        refine WC.seq ?_
        refine WC.region ?_
        refine WL.assign (v := .bool (false)) rfl rfl ?_
        refine WL.nil ?_
        refine WC.ret ?_
        exact ⟨_, Res.one (v := .bool (false)) rfl rfl, congrArg Value.bool (by first | exact (beq_eq_false_iff_ne.2 hne).symm | exact (beq_iff_eq.2 hall).symm), E3⟩
      · have heq : x[j] = y[j] := eq_of_u32 hc24
        refine WC.skip ?_
        refine WC.region ?_
        refine WL.bin h13_1 rfl rfl (BinR.succN (by omega)) ?_
        refine WL.move (v := IN (j + 1)) rfl rfl ?_
        refine WL.nil ?_
        exact ⟨k - 1, by omega, (j + 1), by omega, eq_step x y j (by omega) (by omega) ht heq, h0_1, h1_1, h6_1, h7_1, h8_1, h9_1, h10_1, h11_1, h12_1, rfl, E3⟩
    · have hj : x.length ≤ j := by have := of_decide_eq_false hc14; omega
      have hall : x = y := by rwa [List.take_of_length_le (by omega), List.take_of_length_le (by omega)] at ht
      refine WC.exit ?_
      refine WC.seq ?_
      refine WC.region ?_
      refine WL.assign (v := .bool (true)) rfl rfl ?_
      refine WL.nil ?_
      refine WC.ret ?_
      exact ⟨_, Res.one (v := .bool (true)) rfl rfl, congrArg Value.bool (by first | exact (beq_eq_false_iff_ne.2 hne).symm | exact (beq_iff_eq.2 hall).symm), hE⟩
end Go.Proofs.I
