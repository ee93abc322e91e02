import Derived.Test.YtljcijdkoncodaaImgBig
import Derived.Test.YtljcijdkoncodaaRows
set_option linter.unusedSimpArgs false
set_option linter.unusedVariables false
namespace Go.Proofs.I
open Go Go.Ux Go.Ux.Image Go.Proofs
theorem bls19_19 (z : Int) : ∀ w : World, (Instr.buildSlice 28 1 #[(0, .int .u8 (z))]).run Try.prog w = .ok (.slice (some ⟨w.heap.size, 0, none⟩) 1 1) (w.alloc (.cells #[.int .u8 (z)] 5)) := fun _ => by kernel_rfl
theorem ap28 : appT Try.prog 28 = some (5, 1, 1, #[.int .u8 0]) := by kernel_rfl
theorem el73 : elemT Try.prog 73 = some 3 := by kernel_rfl
theorem sz3 : sizeT Try.prog 3 = some 1 := by kernel_rfl
theorem ag3 : isAggT Try.prog 3 = some false := by kernel_rfl
theorem bls20_28 (z : Int) : ∀ w : World, (Instr.buildSlice 28 1 #[(0, .int .u8 (z))]).run Try.prog w = .ok (.slice (some ⟨w.heap.size, 0, none⟩) 1 1) (w.alloc (.cells #[.int .u8 (z)] 5)) := fun _ => by kernel_rfl

theorem number_spec (n : Int) (K : Nat) (w : World) (hK : K ≤ 7) : CallsR Try.prog 19 #[.int .i64 (n), IN (K)] w (fun v w' => Own w' 1 v K (bs (be K n)) ∧ Ext w w' ∧ From w.heap.size v) := by
  refine callsR_of Try.func19 rfl rfl rfl ?_
  refine WC.seq ?_
  refine WC.region ?_
  refine WL.assign (v := .slice none 0 0) rfl rfl ?_
  refine WL.nil ?_
  refine WC.seq ?_
  refine WC.region ?_
  refine WL.assign (v := .slice none 0 0) rfl rfl ?_
  refine WL.nil ?_
  refine WC.seq ?_
  refine WC.seq ?_
  refine WC.region ?_
  refine WL.move (v := IN (K)) rfl rfl ?_
  refine WL.bin rfl rfl rfl (BinR.subI (by omega)) ?_
  refine WL.assign (v := .int .i64 (((K : Nat) : Int) - (1 : Int))) rfl rfl ?_
  refine WL.nil ?_
  refine WC.block ?_
  refine WC.loop (fun k f w_ => ∃ m v, (k = m) ∧ (m ≤ K) ∧ f 0 = .int .i64 (n) ∧ f 1 = IN (K) ∧ f 4 = .slice none 0 0 ∧ f 5 = v ∧ f 6 = .int .i64 ((m : Int) - 1) ∧ f 7 = IN (K) ∧ f 8 = .int .i64 (((K : Nat) : Int) - (1 : Int)) ∧ (Ext w w_) ∧ (Own w_ 1 v (K - m) (bs ((be K n).take (K - m)))) ∧ (From w.heap.size v)) (K) ?_ ?_
  · exact ⟨(K), (.slice none 0 0), rfl, Nat.le_refl _, rfl, rfl, rfl, rfl, rfl, rfl, rfl, Mod.refl _ _, by rw [Nat.sub_self]; exact Own.nil _ _, fun g hg => by cases hg⟩
  rintro kk f1 wr ⟨m, v, hk1, hm, h0_1, h1_1, h4_1, h5_1, h6_1, h7_1, h8_1, hE, hO, hF⟩
  refine WC.seq ?_
  refine WC.seq ?_
  refine WC.region ?_
  refine WL.move (v := .int .i64 ((m : Int) - 1)) h6_1 rfl ?_
  refine WL.bin rfl rfl rfl (BinR.geq) ?_
  refine WL.nil ?_
  refine WC.cond rfl (fun hc10 => ?_) (fun hc10 => ?_)
  · have hm0 : 0 < m := by have := of_decide_eq_true hc10; omega
    refine WC.skip ?_
    refine WC.seq ?_
    refine WC.block ?_
    refine WC.region ?_
    refine WL.move (v := v) h5_1 rfl ?_
    refine WL.move (v := .int .i64 (n)) h0_1 rfl ?_
    refine WL.move (v := IN (m - 1)) (h6_1.trans (congrArg (Value.int .i64) (by omega))) rfl ?_
    refine WL.bin rfl rfl rfl (BinR.mulN (a := 8) (b := m - 1) (by omega)) ?_
    refine WL.bin (v := .int .i64 (n / (2 ^ (8 * (m - 1)) : Nat))) rfl (vy := IN (8 * (m - 1))) rfl rfl (BinR.shrI (yk := .i64) (s := 8 * (m - 1)) (by omega)) ?_
    refine WL.conv rfl rfl (ConvR.byte Try.underlying3 Try.underlying5) ?_
    refine WL.buildSlice (vs := [(0, .int .u8 (((dig n (m - 1)).toNat : Int)))]) rfl (bls19_19 ((dig n (m - 1)).toNat : Int)) rfl ?_
    intro b19 w19 n19
    have R1 : Ext wr w19 := Mod.trans (Mod.refl _ _) (n19.ext)
    have E2 : Ext w w19 := Mod.trans (hE) (n19.ext)
    have O3 := (hO).ext (n19.ext)
    refine WL.append (k := K - m) (m := 1) (xs := bs ((be K n).take (K - m))) (news := bs [dig n (m - 1)]) ap28 rfl rfl rfl (O3) (Src.ofSlice _ Try.underlying28 ⟨b19, 0, none⟩ 1 1 _ rfl (fun j u hj => by rw [addr_add]; exact (n19.blk).cells j u hj) (bs_one _)) (by omega) (by omega) rfl ?_
    intro v20 w20 o20 m20 l20
    have o20b : Own w20 1 v20 (K - (m - 1)) (bs ((be K n).take (K - (m - 1)))) := by rw [← bs_append, show K - m = K - (m - 1 + 1) by omega, be_take K n (m - 1) (by omega), show K - (m - 1 + 1) + 1 = K - (m - 1) by omega] at o20; exact o20
    have F4 : From w.heap.size v20 := LocV.from l20 (Mod.size (E2)) (hF)
    have E5 : Ext w w20 := Mod.from (E2) m20 (hF)
    refine WL.assign (v := v20) rfl rfl ?_
    refine WL.nil ?_
    refine WC.region ?_
    refine WL.move (v := .int .i64 ((m : Int) - 1)) h6_1 rfl ?_
    refine WL.bin rfl rfl rfl (BinR.subI' (c := ((m - 1 : Nat) : Int) - 1) (by omega) (by omega)) ?_
    refine WL.assign (v := .int .i64 (((m - 1 : Nat) : Int) - 1)) rfl rfl ?_
    refine WL.nil ?_
    exact ⟨m - 1, by omega, (m - 1), (v20), rfl, by omega, h0_1, h1_1, h4_1, rfl, rfl, h7_1, h8_1, E5, o20b, F4⟩
  · have hm0 : m = 0 := by have := of_decide_eq_false hc10; omega
    refine WC.exit ?_
    refine WC.seq ?_
    refine WC.region ?_
    refine WL.move (v := v) h5_1 rfl ?_
    refine WL.assign (v := v) rfl rfl ?_
    refine WL.nil ?_
    refine WC.ret ?_
    exact ⟨_, Res.one (v := v) rfl rfl, by rw [show m = 0 by omega, be_all, Nat.sub_zero] at hO; exact hO, hE, hF⟩

theorem puts_spec (v0 : Value) (K c : Nat) (xs : List Value) (lb : Nat) (n : Int) (w : World) (hK : K ≤ 7) (hc : c ≤ 1000000000) (hO0 : Own w 1 v0 c xs) (hB0 : Blk w lb #[.int .i64 n] 3) (hne0 : v0.ownBlock ≠ some lb) : CallsR Try.prog 20 #[v0, IN (K), .slice (some ⟨lb, 0, none⟩) 1 1] w (fun v w' => Own w' 1 v (c + K) (xs ++ bs (be K n)) ∧ Mod (At v0) w w' ∧ LocV w v0 v) := by
  refine callsR_of Try.func20 rfl rfl rfl ?_
  refine WC.seq ?_
  refine WC.region ?_
  refine WL.assign (v := .slice none 0 0) rfl rfl ?_
  refine WL.nil ?_
  refine WC.seq ?_
  refine WC.seq ?_
  refine WC.region ?_
  refine WL.move (v := .slice (some ⟨lb, 0, none⟩) 1 1) rfl rfl ?_
  refine WL.lenS el73 rfl rfl ?_
  refine WL.move (v := IN (0)) rfl rfl ?_
  refine WL.nil ?_
  refine WC.block ?_
  refine WC.loop (fun k f w_ => ∃ j v, (k + j = 1) ∧ f 0 = v ∧ f 1 = IN (K) ∧ f 2 = .slice (some ⟨lb, 0, none⟩) 1 1 ∧ f 6 = .slice none 0 0 ∧ f 10 = .slice (some ⟨lb, 0, none⟩) 1 1 ∧ f 11 = IN (1) ∧ f 12 = IN (j) ∧ (Mod (At v0) w w_) ∧ (Own w_ 1 v (c + j * K) (xs ++ bs (if j = 0 then [] else be K n))) ∧ (LocV w v0 v) ∧ (Blk w_ lb #[.int .i64 n] 3) ∧ (v.ownBlock ≠ some lb)) (1) ?_ ?_
  · exact ⟨(0), (v0), by omega, rfl, rfl, rfl, rfl, rfl, rfl, rfl, Mod.refl _ _, by simpa [bs] using hO0, LocV.refl _ _, hB0, hne0⟩
  rintro kk f1 wr ⟨j, v, hk1, h0_1, h1_1, h2_1, h6_1, h10_1, h11_1, h12_1, hE, hO, hF, hB, hne⟩
  refine WC.seq ?_
  refine WC.region ?_
  refine WL.bin h12_1 h11_1 rfl (BinR.lss) ?_
  refine WL.nil ?_
  refine WC.seq ?_
  refine WC.cond rfl (fun hc13 => ?_) (fun hc13 => ?_)
  · have hj : j = 0 := by have := of_decide_eq_true hc13; omega
    refine WC.skip ?_
    refine WC.seq ?_
    refine WC.block ?_
    refine WC.seq ?_
    refine WC.region ?_
    refine WL.indexAddr1 (i := j) (b := lb) (o := 0) el73 sz3 h10_1 h12_1 (by omega) rfl ?_
    rw [Nat.zero_add]
    refine WL.load1 rfl ag3 (by rw [hj]; exact hB.cell (j := 0) rfl) rfl ?_
    refine WL.assign (v := .int .i64 (n)) rfl rfl ?_
    refine WL.nil ?_
    refine WC.seq ?_
    refine WC.region ?_
    refine WL.move (v := IN (K)) h1_1 rfl ?_
    refine WL.bin rfl rfl rfl (BinR.subI (by omega)) ?_
    refine WL.assign (v := .int .i64 (((K : Nat) : Int) - (1 : Int))) rfl rfl ?_
    refine WL.nil ?_
    refine WC.block ?_
    refine WC.loop (fun k f w_ => ∃ m u, (k = m) ∧ (m ≤ K) ∧ f 0 = u ∧ f 1 = IN (K) ∧ f 2 = .slice (some ⟨lb, 0, none⟩) 1 1 ∧ f 6 = .slice none 0 0 ∧ f 8 = .int .i64 (n) ∧ f 9 = .int .i64 ((m : Int) - 1) ∧ f 10 = .slice (some ⟨lb, 0, none⟩) 1 1 ∧ f 11 = IN (1) ∧ f 12 = IN (j) ∧ f 13 = .bool (decide (((j : Nat) : Int) < ((1 : Nat) : Int))) ∧ f 14 = ptr lb j ∧ f 15 = .int .i64 (n) ∧ f 16 = IN (K) ∧ f 17 = .int .i64 (((K : Nat) : Int) - (1 : Int)) ∧ (Mod (At v0) w w_) ∧ (Own w_ 1 u (c + (K - m)) (xs ++ bs ((be K n).take (K - m)))) ∧ (LocV w v0 u) ∧ (Blk w_ lb #[.int .i64 n] 3) ∧ (u.ownBlock ≠ some lb)) (K) ?_ ?_
    · exact ⟨(K), (v), rfl, Nat.le_refl _, h0_1, h1_1, h2_1, h6_1, rfl, rfl, h10_1, h11_1, h12_1, rfl, rfl, rfl, rfl, rfl, hE, by rw [show j = 0 by omega] at hO; rw [Nat.sub_self]; simpa [bs] using hO, hF, hB, hne⟩
    rintro kk f2 wr2 ⟨m, u, hk2, hm, h0_2, h1_2, h2_2, h6_2, h8_2, h9_2, h10_2, h11_2, h12_2, h13_2, h14_2, h15_2, h16_2, h17_2, hE2, hO2, hF2, hB2, hne2⟩
    refine WC.seq ?_
    refine WC.seq ?_
    refine WC.region ?_
    refine WL.move (v := .int .i64 ((m : Int) - 1)) h9_2 rfl ?_
    refine WL.bin rfl rfl rfl (BinR.geq) ?_
    refine WL.nil ?_
    refine WC.cond rfl (fun hc19 => ?_) (fun hc19 => ?_)
    · have hm0 : 0 < m := by have := of_decide_eq_true hc19; omega
      refine WC.skip ?_
      refine WC.seq ?_
      refine WC.block ?_
      refine WC.region ?_
      refine WL.move (v := u) h0_2 rfl ?_
      refine WL.move (v := .int .i64 (n)) h8_2 rfl ?_
      refine WL.move (v := IN (m - 1)) (h9_2.trans (congrArg (Value.int .i64) (by omega))) rfl ?_
      refine WL.bin rfl rfl rfl (BinR.mulN (a := 8) (b := m - 1) (by omega)) ?_
      refine WL.bin (v := .int .i64 (n / (2 ^ (8 * (m - 1)) : Nat))) rfl (vy := IN (8 * (m - 1))) rfl rfl (BinR.shrI (yk := .i64) (s := 8 * (m - 1)) (by omega)) ?_
      refine WL.conv rfl rfl (ConvR.byte Try.underlying3 Try.underlying5) ?_
      refine WL.buildSlice (vs := [(0, .int .u8 (((dig n (m - 1)).toNat : Int)))]) rfl (bls20_28 ((dig n (m - 1)).toNat : Int)) rfl ?_
      intro b28 w28 n28
      have R1 : Ext wr2 w28 := Mod.trans (Mod.refl _ _) (n28.ext)
      have E2 : Mod (At v0) w w28 := Mod.trans (hE2) (Mod.ext (n28.ext))
      have O3 := (hO2).ext (n28.ext)
      refine WL.append (k := c + (K - m)) (m := 1) (xs := xs ++ bs ((be K n).take (K - m))) (news := bs [dig n (m - 1)]) ap28 rfl rfl rfl (O3) (Src.ofSlice _ Try.underlying28 ⟨b28, 0, none⟩ 1 1 _ rfl (fun j u hj => by rw [addr_add]; exact (n28.blk).cells j u hj) (bs_one _)) (by omega) (by omega) rfl ?_
      intro v29 w29 o29 m29 l29
      have o29b : Own w29 1 v29 (c + (K - (m - 1))) (xs ++ bs ((be K n).take (K - (m - 1)))) := by rw [List.append_assoc, ← bs_append, show K - m = K - (m - 1 + 1) by omega, be_take K n (m - 1) (by omega), show c + (K - (m - 1 + 1)) + 1 = c + (K - (m - 1)) by omega] at o29; exact o29
      have F4 : LocV w v0 v29 := LocV.trans (hF2) l29 (Mod.size (E2))
      have B6 := (hB2).ext (n28.ext)
      have N5 : v29.ownBlock ≠ some lb := LocV.ne l29 ((B6).lt) hne2
      have E7 : Mod (At v0) w w29 := Mod.at (E2) m29 (hF2)
      refine WL.assign (v := v29) rfl rfl ?_
      refine WL.nil ?_
      refine WC.region ?_
      refine WL.move (v := .int .i64 ((m : Int) - 1)) h9_2 rfl ?_
      refine WL.bin rfl rfl rfl (BinR.subI' (c := ((m - 1 : Nat) : Int) - 1) (by omega) (by omega)) ?_
      refine WL.assign (v := .int .i64 (((m - 1 : Nat) : Int) - 1)) rfl rfl ?_
      refine WL.nil ?_
      have B8 := (B6).mod (m29) (hne2)
      exact ⟨m - 1, by omega, (m - 1), (v29), rfl, by omega, rfl, h1_2, h2_2, h6_2, h8_2, rfl, h10_2, h11_2, h12_2, h13_2, h14_2, h15_2, h16_2, h17_2, E7, o29b, F4, B8, N5⟩
    · have hm0 : m = 0 := by have := of_decide_eq_false hc19; omega
      refine WC.exit ?_
      refine WC.region ?_
      refine WL.bin h12_2 rfl rfl (BinR.succN (by omega)) ?_
      refine WL.move (v := IN (j + 1)) rfl rfl ?_
      refine WL.nil ?_
      exact ⟨kk - 1, by omega, (j + 1), (u), by omega, h0_2, h1_2, h2_2, h6_2, h10_2, h11_2, rfl, hE2, by rw [show m = 0 by omega, be_all, Nat.sub_zero] at hO2; rw [show j = 0 by omega]; simpa using hO2, hF2, hB2, hne2⟩
  · have hj : j = 1 := by have := of_decide_eq_false hc13; omega
    refine WC.exit ?_
    refine WC.seq ?_
    refine WC.region ?_
    refine WL.move (v := v) h0_1 rfl ?_
    refine WL.assign (v := v) rfl rfl ?_
    refine WL.nil ?_
    refine WC.ret ?_
    exact ⟨_, Res.one (v := v) rfl rfl, by rw [show j = 1 by omega] at hO; simpa using hO, hE, hF⟩
end Go.Proofs.I
