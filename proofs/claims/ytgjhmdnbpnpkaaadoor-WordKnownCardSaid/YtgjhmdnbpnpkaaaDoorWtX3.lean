import Derived.Test.YtgjhmdnbpnpkaaaDoorUxSl
import Derived.Test.YtgjhmdnbpnpkaaaDoorWordHigh
import Derived.Test.YtgjhmdnbpnpkaaaDoorRows
import Derived.Test.YtgjhmdnbpnpkaaaDoorWtX2
set_option linter.unusedSimpArgs false
set_option linter.unusedVariables false
namespace Go.Proofs.W
open Go Go.Ux Go.Ux.Word Go.Proofs
theorem el35 : elemT Tryd.prog 35 = some 2 := by kernel_rfl
theorem sz2 : sizeT Tryd.prog 2 = some 1 := by kernel_rfl
theorem ca10 : callable Tryd.prog 10 = true := by kernel_rfl
theorem ca12 : callable Tryd.prog 12 = true := by kernel_rfl

def allW (n : Nat) (l : List (BitVec 64)) : BitVec 64 := match l with | [] => 0#64 | a :: r => r.foldl (opW n) a
theorem fold_take (n : Nat) (a : BitVec 64) (r : List (BitVec 64)) (j : Nat) (h : j < r.length) : opW n ((r.take j).foldl (opW n) a) r[j] = (r.take (j + 1)).foldl (opW n) a := by
  rw [List.take_succ_eq_append_getElem h, List.foldl_append]; rfl
theorem cell_next {w wr : World} {b o : Nat} {a : BitVec 64} {r : List (BitVec 64)} (hc : Cells w b o ((a :: r).map I64)) (e : Ext w wr) (j : Nat) (h : j < r.length) : wr.cell? ⟨b, o + 1 + j, none⟩ = some (I64 r[j]) := by
  have := hc (j + 1) (I64 r[j]) (by simp [h])
  rw [show o + (j + 1) = o + 1 + j by omega] at this
  exact e.cell this fun x => x

theorem all_nil (n : Nat) (ao : Option Addr) (cap : Nat) (w : World) : CallsR Tryd.prog 25 #[.int .u8 (((n : Nat) : Int)), .slice ao 0 cap] w (fun v w' => v = I64 (allW n []) ∧ w = w') := by
  refine callsR_of Tryd.func25 rfl rfl rfl ?_
  refine WC.seq ?_
  refine WC.region ?_
  refine WL.assign (v := I64 (0#64)) rfl rfl ?_
  refine WL.nil ?_
  refine WC.seq ?_
  refine WC.seq ?_
  refine WC.region ?_
  refine WL.move (v := .slice ao 0 cap) rfl rfl ?_
  refine WL.lenS el35 rfl rfl ?_
  refine WL.bin rfl rfl rfl (BinR.eql) ?_
  refine WL.nil ?_
  refine WC.condT (rfl) ?_
  refine WC.seq ?_
  refine WC.region ?_
  refine WL.assign (v := I64 (0#64)) rfl rfl ?_
  refine WL.nil ?_
  refine WC.ret ?_
  exact ⟨_, Res.one (v := I64 (0#64)) rfl rfl, rfl, rfl⟩

theorem rall_nil (n : Nat) (ao : Option Addr) (cap : Nat) (w : World) : CallsR Tryd.prog 26 #[.int .u8 (((n : Nat) : Int)), .slice ao 0 cap] w (fun v w' => v = I64 (allW n []) ∧ w = w') := by
  refine callsR_of Tryd.func26 rfl rfl rfl ?_
  refine WC.seq ?_
  refine WC.region ?_
  refine WL.assign (v := I64 (0#64)) rfl rfl ?_
  refine WL.nil ?_
  refine WC.seq ?_
  refine WC.seq ?_
  refine WC.region ?_
  refine WL.move (v := .slice ao 0 cap) rfl rfl ?_
  refine WL.lenS el35 rfl rfl ?_
  refine WL.bin rfl rfl rfl (BinR.eql) ?_
  refine WL.nil ?_
  refine WC.condT (rfl) ?_
  refine WC.seq ?_
  refine WC.region ?_
  refine WL.assign (v := I64 (0#64)) rfl rfl ?_
  refine WL.nil ?_
  refine WC.ret ?_
  exact ⟨_, Res.one (v := I64 (0#64)) rfl rfl, rfl, rfl⟩

theorem all_cons (n : Nat) (a : BitVec 64) (r : List (BitVec 64)) (b o cap : Nat) (w : World) (hn2 : n < 256) (hlen : r.length < 1000000) (hcap : r.length + 1 ≤ cap) (hc : Cells w b o ((a :: r).map I64)) : CallsR Tryd.prog 25 #[.int .u8 (((n : Nat) : Int)), .slice (some ⟨b, o, none⟩) (r.length + 1) cap] w (fun v w' => v = I64 (allW n (a :: r)) ∧ Ext w w') := by
  refine callsR_of Tryd.func25 rfl rfl rfl ?_
  refine WC.seq ?_
  refine WC.region ?_
  refine WL.assign (v := I64 (0#64)) rfl rfl ?_
  refine WL.nil ?_
  refine WC.seq ?_
  refine WC.seq ?_
  refine WC.region ?_
  refine WL.move (v := .slice (some ⟨b, o, none⟩) (r.length + 1) cap) rfl rfl ?_
  refine WL.lenS el35 rfl rfl ?_
  refine WL.bin rfl rfl rfl (BinR.eql) ?_
  refine WL.nil ?_
  refine WC.condF (congrArg Value.bool (beq_eq_false_iff_ne.2 (by omega))) ?_
  refine WC.skip ?_
  refine WC.seq ?_
  refine WC.region ?_
  refine WL.move (v := .slice (some ⟨b, o, none⟩) (r.length + 1) cap) rfl rfl ?_
  refine WL.indexAddr1 (i := 0) el35 sz2 rfl rfl (by omega) rfl ?_
  refine WL.load1 rfl ag2 (hc 0 (I64 a) rfl) rfl ?_
  refine WL.assign (v := I64 (a)) rfl rfl ?_
  refine WL.nil ?_
  refine WC.seq ?_
  refine WC.seq ?_
  refine WC.region ?_
  refine WL.move (v := .slice (some ⟨b, o, none⟩) (r.length + 1) cap) rfl rfl ?_
  refine WL.sliceFrom (i := 1) el35 sz2 rfl rfl (by omega) hcap rfl ?_
  intro ao' h15 _
  refine WL.lenS el35 rfl rfl ?_
  refine WL.move (v := IN (0)) rfl rfl ?_
  refine WL.nil ?_
  refine WC.block ?_
  refine WC.loop (fun k f w_ => ∃ j, (k + j = r.length) ∧ f 0 = .int .u8 (((n : Nat) : Int)) ∧ f 1 = .slice (some ⟨b, o, none⟩) (r.length + 1) cap ∧ f 4 = I64 (0#64) ∧ f 5 = I64 ((r.take j).foldl (opW n) a) ∧ f 8 = .slice (some ⟨b, o, none⟩) (r.length + 1) cap ∧ f 9 = IN ((r.length + 1)) ∧ f 10 = .bool (((((r.length + 1) : Nat) : Int) == (0 : Int))) ∧ f 11 = .slice (some ⟨b, o, none⟩) (r.length + 1) cap ∧ f 12 = ptr b (o + 0) ∧ f 13 = I64 (a) ∧ f 14 = .slice (some ⟨b, o, none⟩) (r.length + 1) cap ∧ f 15 = .slice ao' (r.length + 1 - 1) (cap - 1) ∧ f 16 = IN ((r.length + 1 - 1)) ∧ f 17 = IN (j) ∧ (Ext w w_)) (r.length) ?_ ?_
  · exact ⟨(0), by omega, rfl, rfl, rfl, rfl, rfl, rfl, rfl, rfl, rfl, rfl, rfl, rfl, rfl, rfl, Mod.refl _ _⟩
  rintro k f1 wr ⟨j, hk, h0_1, h1_1, h4_1, h5_1, h8_1, h9_1, h10_1, h11_1, h12_1, h13_1, h14_1, h15_1, h16_1, h17_1, hE⟩
  refine WC.seq ?_
  refine WC.region ?_
  refine WL.bin h17_1 h16_1 rfl (BinR.lss) ?_
  refine WL.nil ?_
  refine WC.seq ?_
  refine WC.cond rfl (fun hc18 => ?_) (fun hc18 => ?_)
  · have hj : j < r.length := by have := of_decide_eq_true hc18; omega
    have hcell := cell_next hc hE j hj
    have hao : ao' = some ⟨b, o + 1, none⟩ := by rw [h15 (by omega)]; simp [addr_add]
    refine WC.skip ?_
    refine WC.seq ?_
    refine WC.block ?_
    refine WC.seq ?_
    refine WC.region ?_
    refine WL.indexAddr1 (i := j) (b := b) (o := o + 1) el35 sz2 (h15_1.trans (by rw [hao])) h17_1 (by omega) rfl ?_
    refine WL.load1 rfl ag2 hcell rfl ?_
    refine WL.assign (v := I64 ((r[j]))) rfl rfl ?_
    refine WL.nil ?_
    refine WC.region ?_
    refine WL.move (v := .int .u8 (((n : Nat) : Int))) h0_1 rfl ?_
    refine WL.move (v := I64 ((r.take j).foldl (opW n) a)) h5_1 rfl ?_
    refine WL.move (v := I64 ((r[j]))) rfl rfl ?_
    refine WL.call ca10 (rfl) rfl (do_spec n ((r.take j).foldl (opW n) a) ((r[j])) _ hn2) ?_
    rintro _ wd24 ⟨rfl, ed24⟩
    have R1 : Ext wr wd24 := Mod.trans (Mod.refl _ _) (ed24)
    have E2 : Ext w wd24 := Mod.trans (hE) (ed24)
    refine WL.assign (v := I64 ((opW n ((r.take j).foldl (opW n) a) ((r[j]))))) rfl rfl ?_
    refine WL.nil ?_
    refine WC.region ?_
    refine WL.bin h17_1 rfl rfl (BinR.succN (by omega)) ?_
    refine WL.move (v := IN (j + 1)) rfl rfl ?_
    refine WL.nil ?_
    exact ⟨k - 1, by omega, (j + 1), by omega, h0_1, h1_1, h4_1, congrArg I64 (fold_take n a r j hj), h8_1, h9_1, h10_1, h11_1, h12_1, h13_1, h14_1, h15_1, h16_1, rfl, E2⟩
  · have hj : r.length ≤ j := by have := of_decide_eq_false hc18; omega
    refine WC.exit ?_
    refine WC.seq ?_
    refine WC.region ?_
    refine WL.move (v := I64 ((r.take j).foldl (opW n) a)) h5_1 rfl ?_
    refine WL.assign (v := I64 ((r.take j).foldl (opW n) a)) rfl rfl ?_
    refine WL.nil ?_
    refine WC.ret ?_
    exact ⟨_, Res.one (v := I64 ((r.take j).foldl (opW n) a)) rfl rfl, by rw [List.take_of_length_le (by omega)]; rfl, hE⟩

theorem rall_cons (n : Nat) (a : BitVec 64) (r : List (BitVec 64)) (b o cap : Nat) (w : World) (hn2 : n < 256) (hlen : r.length < 1000000) (hcap : r.length + 1 ≤ cap) (hc : Cells w b o ((a :: r).map I64)) : CallsR Tryd.prog 26 #[.int .u8 (((n : Nat) : Int)), .slice (some ⟨b, o, none⟩) (r.length + 1) cap] w (fun v w' => v = I64 (allW n (a :: r)) ∧ w = w') := by
  refine callsR_of Tryd.func26 rfl rfl rfl ?_
  refine WC.seq ?_
  refine WC.region ?_
  refine WL.assign (v := I64 (0#64)) rfl rfl ?_
  refine WL.nil ?_
  refine WC.seq ?_
  refine WC.seq ?_
  refine WC.region ?_
  refine WL.move (v := .slice (some ⟨b, o, none⟩) (r.length + 1) cap) rfl rfl ?_
  refine WL.lenS el35 rfl rfl ?_
  refine WL.bin rfl rfl rfl (BinR.eql) ?_
  refine WL.nil ?_
  refine WC.condF (congrArg Value.bool (beq_eq_false_iff_ne.2 (by omega))) ?_
  refine WC.skip ?_
  refine WC.seq ?_
  refine WC.region ?_
  refine WL.move (v := .slice (some ⟨b, o, none⟩) (r.length + 1) cap) rfl rfl ?_
  refine WL.indexAddr1 (i := 0) el35 sz2 rfl rfl (by omega) rfl ?_
  refine WL.load1 rfl ag2 (hc 0 (I64 a) rfl) rfl ?_
  refine WL.assign (v := I64 (a)) rfl rfl ?_
  refine WL.nil ?_
  refine WC.seq ?_
  refine WC.seq ?_
  refine WC.region ?_
  refine WL.assign (v := IN (1)) rfl rfl ?_
  refine WL.nil ?_
  refine WC.block ?_
  refine WC.loop (fun k f w_ => ∃ j, (k + j = r.length) ∧ f 0 = .int .u8 (((n : Nat) : Int)) ∧ f 1 = .slice (some ⟨b, o, none⟩) (r.length + 1) cap ∧ f 4 = I64 (0#64) ∧ f 5 = I64 ((r.take j).foldl (opW n) a) ∧ f 6 = IN ((j + 1)) ∧ f 7 = .slice (some ⟨b, o, none⟩) (r.length + 1) cap ∧ f 8 = IN ((r.length + 1)) ∧ f 9 = .bool (((((r.length + 1) : Nat) : Int) == (0 : Int))) ∧ f 10 = .slice (some ⟨b, o, none⟩) (r.length + 1) cap ∧ f 11 = ptr b (o + 0) ∧ f 12 = I64 (a) ∧ w_ = w) (r.length) ?_ ?_
  · exact ⟨(0), by omega, rfl, rfl, rfl, rfl, rfl, rfl, rfl, rfl, rfl, rfl, rfl, rfl⟩
  rintro k f1 _ ⟨j, hk, h0_1, h1_1, h4_1, h5_1, h6_1, h7_1, h8_1, h9_1, h10_1, h11_1, h12_1, rfl⟩
  refine WC.seq ?_
  refine WC.seq ?_
  refine WC.region ?_
  refine WL.move (v := IN ((j + 1))) h6_1 rfl ?_
  refine WL.move (v := .slice (some ⟨b, o, none⟩) (r.length + 1) cap) h1_1 rfl ?_
  refine WL.lenS el35 rfl rfl ?_
  refine WL.bin rfl rfl rfl (BinR.lss) ?_
  refine WL.nil ?_
  refine WC.cond rfl (fun hc16 => ?_) (fun hc16 => ?_)
  · have hj : j < r.length := by have := of_decide_eq_true hc16; omega
    have hcell := cell_next hc (Mod.refl _ _) j hj
    refine WC.skip ?_
    refine WC.seq ?_
    refine WC.block ?_
    refine WC.region ?_
    refine WL.move (v := .int .u8 (((n : Nat) : Int))) h0_1 rfl ?_
    refine WL.move (v := I64 ((r.take j).foldl (opW n) a)) h5_1 rfl ?_
    refine WL.move (v := .slice (some ⟨b, o, none⟩) (r.length + 1) cap) h1_1 rfl ?_
    refine WL.move (v := IN ((j + 1))) h6_1 rfl ?_
    refine WL.indexAddr1 (i := j + 1) (b := b) (o := o) el35 sz2 rfl rfl (by omega) rfl ?_
    rw [show o + (j + 1) = o + 1 + j by omega]
    refine WL.load1 rfl ag2 hcell rfl ?_
    refine WL.call ca12 (rfl) rfl (refDo_spec n ((r.take j).foldl (opW n) a) ((r[j])) _) ?_
    rintro _ _ ⟨rfl, rfl⟩
    refine WL.assign (v := I64 ((opW n ((r.take j).foldl (opW n) a) ((r[j]))))) rfl rfl ?_
    refine WL.nil ?_
    refine WC.region ?_
    refine WL.move (v := IN ((j + 1))) h6_1 rfl ?_
    refine WL.bin rfl rfl rfl (BinR.succN (by omega)) ?_
    refine WL.assign (v := IN ((j + 1) + 1)) rfl rfl ?_
    refine WL.nil ?_
    exact ⟨k - 1, by omega, (j + 1), by omega, h0_1, h1_1, h4_1, congrArg I64 (fold_take n a r j hj), rfl, h7_1, h8_1, h9_1, h10_1, h11_1, h12_1, rfl⟩
  · have hj : r.length ≤ j := by have := of_decide_eq_false hc16; omega
    refine WC.exit ?_
    refine WC.seq ?_
    refine WC.region ?_
    refine WL.move (v := I64 ((r.take j).foldl (opW n) a)) h5_1 rfl ?_
    refine WL.assign (v := I64 ((r.take j).foldl (opW n) a)) rfl rfl ?_
    refine WL.nil ?_
    refine WC.ret ?_
    exact ⟨_, Res.one (v := I64 ((r.take j).foldl (opW n) a)) rfl rfl, by rw [List.take_of_length_le (by omega)]; rfl, rfl⟩
end Go.Proofs.W
