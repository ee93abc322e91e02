import Derived.Test.YtgjhmdnbpnpkaaaDoorUxMem
import Derived.Test.YtgjhmdnbpnpkaaaDoorWordPure2
import Derived.Test.YtgjhmdnbpnpkaaaDoorRows
import Derived.Test.YtgjhmdnbpnpkaaaDoorWtW1
set_option linter.unusedSimpArgs false
set_option linter.unusedVariables false
namespace Go.Proofs.W
open Go Go.Ux Go.Ux.Word Go.Proofs
theorem ca56 : callable Tryd.prog 56 = true := by kernel_rfl
theorem ca57 : callable Tryd.prog 57 = true := by kernel_rfl

theorem signed_spec (x y : BitVec 64) (w : World) (hb : y ≠ 0#64) : CallsR Tryd.prog 57 #[I64 (x), I64 (y)] w (fun v w' => v = .tuple #[I64 (x.sdiv y), I64 (x.srem y)] ∧ w = w') := by
  refine callsR_of Tryd.func57 rfl rfl rfl ?_
  refine WC.seq ?_
  refine WC.region ?_
  refine WL.assign (v := I64 (0#64)) rfl rfl ?_
  refine WL.assign (v := I64 (0#64)) rfl rfl ?_
  refine WL.nil ?_
  refine WC.seq ?_
  refine WC.region ?_
  refine WL.move (v := I64 (x)) rfl rfl ?_
  refine WL.move (v := I64 (y)) rfl rfl ?_
  refine WL.assign (v := I64 (x)) rfl rfl ?_
  refine WL.assign (v := I64 (y)) rfl rfl ?_
  refine WL.nil ?_
  refine WC.seq ?_
  refine WC.seq ?_
  refine WC.region ?_
  refine WL.move (v := I64 (x)) rfl rfl ?_
  refine WL.bin rfl (vy := I64 (0#64)) rfl rfl (BinR.lss64) ?_
  refine WL.nil ?_
  refine WC.cond rfl (fun hc13 => ?_) (fun hc13 => ?_)
  · refine WC.region ?_
    refine WL.move (v := I64 (x)) rfl rfl ?_
    refine WL.call ca29 (rfl) rfl (neg_spec (x) _) ?_
    rintro _ _ ⟨rfl, rfl⟩
    refine WL.assign (v := I64 ((-(x)))) rfl rfl ?_
    refine WL.nil ?_
    refine WC.seq ?_
    refine WC.seq ?_
    refine WC.region ?_
    refine WL.move (v := I64 (y)) rfl rfl ?_
    refine WL.bin rfl (vy := I64 (0#64)) rfl rfl (BinR.lss64) ?_
    refine WL.nil ?_
    refine WC.cond rfl (fun hc17 => ?_) (fun hc17 => ?_)
    · refine WC.region ?_
      refine WL.move (v := I64 (y)) rfl rfl ?_
      refine WL.call ca29 (rfl) rfl (neg_spec (y) _) ?_
      rintro _ _ ⟨rfl, rfl⟩
      refine WL.assign (v := I64 ((-(y)))) rfl rfl ?_
      refine WL.nil ?_
      refine WC.seq ?_
      refine WC.region ?_
      refine WL.move (v := I64 ((-(x)))) rfl rfl ?_
      refine WL.move (v := I64 ((-(y)))) rfl rfl ?_
      refine WL.call ca56 (rfl) rfl (divide_spec ((-(x))) ((-(y))) _ (by have := abs_ne y hb; simp only [absW, hc17] at this; exact this)) ?_
      rintro _ _ ⟨rfl, rfl⟩
      refine WL.move (v := .tuple #[I64 (((-(x)) / (-(y)))), I64 (((-(x)) % (-(y))))]) rfl rfl ?_
      refine WL.extract rfl rfl rfl ?_
      refine WL.extract rfl rfl rfl ?_
      refine WL.assign (v := I64 (((-(x)) / (-(y))))) rfl rfl ?_
      refine WL.assign (v := I64 (((-(x)) % (-(y))))) rfl rfl ?_
      refine WL.nil ?_
      refine WC.seq ?_
      refine WC.seq ?_
      refine WC.region ?_
      refine WL.move (v := I64 (x)) rfl rfl ?_
      refine WL.bin rfl (vy := I64 (0#64)) rfl rfl (BinR.lss64) ?_
      refine WL.move (v := I64 (y)) rfl rfl ?_
      refine WL.bin rfl (vy := I64 (0#64)) rfl rfl (BinR.lss64) ?_
      refine WL.bin rfl rfl rfl (BinR.neqB Tryd.underlying4) ?_
      refine WL.nil ?_
      refine WC.cond rfl (fun hc30 => ?_) (fun hc30 => ?_)
      · refine WC.region ?_
        refine WL.move (v := I64 (((-(x)) / (-(y))))) rfl rfl ?_
        refine WL.call ca29 (rfl) rfl (neg_spec (((-(x)) / (-(y)))) _) ?_
        rintro _ _ ⟨rfl, rfl⟩
        refine WL.assign (v := I64 ((-(((-(x)) / (-(y))))))) rfl rfl ?_
        refine WL.nil ?_
        refine WC.seq ?_
        refine WC.seq ?_
        refine WC.region ?_
        refine WL.move (v := I64 (x)) rfl rfl ?_
        refine WL.bin rfl (vy := I64 (0#64)) rfl rfl (BinR.lss64) ?_
        refine WL.nil ?_
        refine WC.cond rfl (fun hc34 => ?_) (fun hc34 => ?_)
        · refine WC.region ?_
          refine WL.move (v := I64 (((-(x)) % (-(y))))) rfl rfl ?_
          refine WL.call ca29 (rfl) rfl (neg_spec (((-(x)) % (-(y)))) _) ?_
          rintro _ _ ⟨rfl, rfl⟩
          refine WL.assign (v := I64 ((-(((-(x)) % (-(y))))))) rfl rfl ?_
          refine WL.nil ?_
          refine WC.seq ?_
          refine WC.region ?_
          refine WL.move (v := I64 ((-(((-(x)) / (-(y))))))) rfl rfl ?_
          refine WL.move (v := I64 ((-(((-(x)) % (-(y))))))) rfl rfl ?_
          refine WL.assign (v := I64 ((-(((-(x)) / (-(y))))))) rfl rfl ?_
          refine WL.assign (v := I64 ((-(((-(x)) % (-(y))))))) rfl rfl ?_
          refine WL.nil ?_
          refine WC.ret ?_
          have hfin : .tuple #[I64 ((-(((-(x)) / (-(y)))))), I64 ((-(((-(x)) % (-(y))))))] = Value.tuple #[I64 (x.sdiv y), I64 (x.srem y)] := by
            first
              | (exfalso; simp [hc13, hc17] at hc30; done)
              | (exfalso; simp [hc13] at hc34; done)
              | (rw [(signed_fin x y).1, (signed_fin x y).2]; simp only [absW, hc13, hc17, cond_true, cond_false]; rfl)
          exact ⟨_, Res.two (v := I64 ((-(((-(x)) / (-(y))))))) (v' := I64 ((-(((-(x)) % (-(y))))))) rfl rfl rfl, hfin, rfl⟩
        · refine WC.skip ?_
          refine WC.seq ?_
          refine WC.region ?_
          refine WL.move (v := I64 ((-(((-(x)) / (-(y))))))) rfl rfl ?_
          refine WL.move (v := I64 (((-(x)) % (-(y))))) rfl rfl ?_
          refine WL.assign (v := I64 ((-(((-(x)) / (-(y))))))) rfl rfl ?_
          refine WL.assign (v := I64 (((-(x)) % (-(y))))) rfl rfl ?_
          refine WL.nil ?_
          refine WC.ret ?_
          have hfin : .tuple #[I64 ((-(((-(x)) / (-(y)))))), I64 (((-(x)) % (-(y))))] = Value.tuple #[I64 (x.sdiv y), I64 (x.srem y)] := by
            first
              | (exfalso; simp [hc13, hc17] at hc30; done)
              | (exfalso; simp [hc13] at hc34; done)
              | (rw [(signed_fin x y).1, (signed_fin x y).2]; simp only [absW, hc13, hc17, cond_true, cond_false]; rfl)
          exact ⟨_, Res.two (v := I64 ((-(((-(x)) / (-(y))))))) (v' := I64 (((-(x)) % (-(y))))) rfl rfl rfl, hfin, rfl⟩
      · refine WC.skip ?_
        refine WC.seq ?_
        refine WC.seq ?_
        refine WC.region ?_
        refine WL.move (v := I64 (x)) rfl rfl ?_
        refine WL.bin rfl (vy := I64 (0#64)) rfl rfl (BinR.lss64) ?_
        refine WL.nil ?_
        refine WC.cond rfl (fun hc34 => ?_) (fun hc34 => ?_)
        · refine WC.region ?_
          refine WL.move (v := I64 (((-(x)) % (-(y))))) rfl rfl ?_
          refine WL.call ca29 (rfl) rfl (neg_spec (((-(x)) % (-(y)))) _) ?_
          rintro _ _ ⟨rfl, rfl⟩
          refine WL.assign (v := I64 ((-(((-(x)) % (-(y))))))) rfl rfl ?_
          refine WL.nil ?_
          refine WC.seq ?_
          refine WC.region ?_
          refine WL.move (v := I64 (((-(x)) / (-(y))))) rfl rfl ?_
          refine WL.move (v := I64 ((-(((-(x)) % (-(y))))))) rfl rfl ?_
          refine WL.assign (v := I64 (((-(x)) / (-(y))))) rfl rfl ?_
          refine WL.assign (v := I64 ((-(((-(x)) % (-(y))))))) rfl rfl ?_
          refine WL.nil ?_
          refine WC.ret ?_
          have hfin : .tuple #[I64 (((-(x)) / (-(y)))), I64 ((-(((-(x)) % (-(y))))))] = Value.tuple #[I64 (x.sdiv y), I64 (x.srem y)] := by
            first
              | (exfalso; simp [hc13, hc17] at hc30; done)
              | (exfalso; simp [hc13] at hc34; done)
              | (rw [(signed_fin x y).1, (signed_fin x y).2]; simp only [absW, hc13, hc17, cond_true, cond_false]; rfl)
          exact ⟨_, Res.two (v := I64 (((-(x)) / (-(y))))) (v' := I64 ((-(((-(x)) % (-(y))))))) rfl rfl rfl, hfin, rfl⟩
        · refine WC.skip ?_
          refine WC.seq ?_
          refine WC.region ?_
          refine WL.move (v := I64 (((-(x)) / (-(y))))) rfl rfl ?_
          refine WL.move (v := I64 (((-(x)) % (-(y))))) rfl rfl ?_
          refine WL.assign (v := I64 (((-(x)) / (-(y))))) rfl rfl ?_
          refine WL.assign (v := I64 (((-(x)) % (-(y))))) rfl rfl ?_
          refine WL.nil ?_
          refine WC.ret ?_
          have hfin : .tuple #[I64 (((-(x)) / (-(y)))), I64 (((-(x)) % (-(y))))] = Value.tuple #[I64 (x.sdiv y), I64 (x.srem y)] := by
            first
              | (exfalso; simp [hc13, hc17] at hc30; done)
              | (exfalso; simp [hc13] at hc34; done)
              | (rw [(signed_fin x y).1, (signed_fin x y).2]; simp only [absW, hc13, hc17, cond_true, cond_false]; rfl)
          exact ⟨_, Res.two (v := I64 (((-(x)) / (-(y))))) (v' := I64 (((-(x)) % (-(y))))) rfl rfl rfl, hfin, rfl⟩
    · refine WC.skip ?_
      refine WC.seq ?_
      refine WC.region ?_
      refine WL.move (v := I64 ((-(x)))) rfl rfl ?_
      refine WL.move (v := I64 (y)) rfl rfl ?_
      refine WL.call ca56 (rfl) rfl (divide_spec ((-(x))) (y) _ (by have := abs_ne y hb; simp only [absW, hc17] at this; exact this)) ?_
      rintro _ _ ⟨rfl, rfl⟩
      refine WL.move (v := .tuple #[I64 (((-(x)) / y)), I64 (((-(x)) % y))]) rfl rfl ?_
      refine WL.extract rfl rfl rfl ?_
      refine WL.extract rfl rfl rfl ?_
      refine WL.assign (v := I64 (((-(x)) / y))) rfl rfl ?_
      refine WL.assign (v := I64 (((-(x)) % y))) rfl rfl ?_
      refine WL.nil ?_
      refine WC.seq ?_
      refine WC.seq ?_
      refine WC.region ?_
      refine WL.move (v := I64 (x)) rfl rfl ?_
      refine WL.bin rfl (vy := I64 (0#64)) rfl rfl (BinR.lss64) ?_
      refine WL.move (v := I64 (y)) rfl rfl ?_
      refine WL.bin rfl (vy := I64 (0#64)) rfl rfl (BinR.lss64) ?_
      refine WL.bin rfl rfl rfl (BinR.neqB Tryd.underlying4) ?_
      refine WL.nil ?_
      refine WC.cond rfl (fun hc30 => ?_) (fun hc30 => ?_)
      · refine WC.region ?_
        refine WL.move (v := I64 (((-(x)) / y))) rfl rfl ?_
        refine WL.call ca29 (rfl) rfl (neg_spec (((-(x)) / y)) _) ?_
        rintro _ _ ⟨rfl, rfl⟩
        refine WL.assign (v := I64 ((-(((-(x)) / y))))) rfl rfl ?_
        refine WL.nil ?_
        refine WC.seq ?_
        refine WC.seq ?_
        refine WC.region ?_
        refine WL.move (v := I64 (x)) rfl rfl ?_
        refine WL.bin rfl (vy := I64 (0#64)) rfl rfl (BinR.lss64) ?_
        refine WL.nil ?_
        refine WC.cond rfl (fun hc34 => ?_) (fun hc34 => ?_)
        · refine WC.region ?_
          refine WL.move (v := I64 (((-(x)) % y))) rfl rfl ?_
          refine WL.call ca29 (rfl) rfl (neg_spec (((-(x)) % y)) _) ?_
          rintro _ _ ⟨rfl, rfl⟩
          refine WL.assign (v := I64 ((-(((-(x)) % y))))) rfl rfl ?_
          refine WL.nil ?_
          refine WC.seq ?_
          refine WC.region ?_
          refine WL.move (v := I64 ((-(((-(x)) / y))))) rfl rfl ?_
          refine WL.move (v := I64 ((-(((-(x)) % y))))) rfl rfl ?_
          refine WL.assign (v := I64 ((-(((-(x)) / y))))) rfl rfl ?_
          refine WL.assign (v := I64 ((-(((-(x)) % y))))) rfl rfl ?_
          refine WL.nil ?_
          refine WC.ret ?_
          have hfin : .tuple #[I64 ((-(((-(x)) / y)))), I64 ((-(((-(x)) % y))))] = Value.tuple #[I64 (x.sdiv y), I64 (x.srem y)] := by
            first
              | (exfalso; simp [hc13, hc17] at hc30; done)
              | (exfalso; simp [hc13] at hc34; done)
              | (rw [(signed_fin x y).1, (signed_fin x y).2]; simp only [absW, hc13, hc17, cond_true, cond_false]; rfl)
          exact ⟨_, Res.two (v := I64 ((-(((-(x)) / y))))) (v' := I64 ((-(((-(x)) % y))))) rfl rfl rfl, hfin, rfl⟩
        · refine WC.skip ?_
          refine WC.seq ?_
          refine WC.region ?_
          refine WL.move (v := I64 ((-(((-(x)) / y))))) rfl rfl ?_
          refine WL.move (v := I64 (((-(x)) % y))) rfl rfl ?_
          refine WL.assign (v := I64 ((-(((-(x)) / y))))) rfl rfl ?_
          refine WL.assign (v := I64 (((-(x)) % y))) rfl rfl ?_
          refine WL.nil ?_
          refine WC.ret ?_
          have hfin : .tuple #[I64 ((-(((-(x)) / y)))), I64 (((-(x)) % y))] = Value.tuple #[I64 (x.sdiv y), I64 (x.srem y)] := by
            first
              | (exfalso; simp [hc13, hc17] at hc30; done)
              | (exfalso; simp [hc13] at hc34; done)
              | (rw [(signed_fin x y).1, (signed_fin x y).2]; simp only [absW, hc13, hc17, cond_true, cond_false]; rfl)
          exact ⟨_, Res.two (v := I64 ((-(((-(x)) / y))))) (v' := I64 (((-(x)) % y))) rfl rfl rfl, hfin, rfl⟩
      · refine WC.skip ?_
        refine WC.seq ?_
        refine WC.seq ?_
        refine WC.region ?_
        refine WL.move (v := I64 (x)) rfl rfl ?_
        refine WL.bin rfl (vy := I64 (0#64)) rfl rfl (BinR.lss64) ?_
        refine WL.nil ?_
        refine WC.cond rfl (fun hc34 => ?_) (fun hc34 => ?_)
        · refine WC.region ?_
          refine WL.move (v := I64 (((-(x)) % y))) rfl rfl ?_
          refine WL.call ca29 (rfl) rfl (neg_spec (((-(x)) % y)) _) ?_
          rintro _ _ ⟨rfl, rfl⟩
          refine WL.assign (v := I64 ((-(((-(x)) % y))))) rfl rfl ?_
          refine WL.nil ?_
          refine WC.seq ?_
          refine WC.region ?_
          refine WL.move (v := I64 (((-(x)) / y))) rfl rfl ?_
          refine WL.move (v := I64 ((-(((-(x)) % y))))) rfl rfl ?_
          refine WL.assign (v := I64 (((-(x)) / y))) rfl rfl ?_
          refine WL.assign (v := I64 ((-(((-(x)) % y))))) rfl rfl ?_
          refine WL.nil ?_
          refine WC.ret ?_
          have hfin : .tuple #[I64 (((-(x)) / y)), I64 ((-(((-(x)) % y))))] = Value.tuple #[I64 (x.sdiv y), I64 (x.srem y)] := by
            first
              | (exfalso; simp [hc13, hc17] at hc30; done)
              | (exfalso; simp [hc13] at hc34; done)
              | (rw [(signed_fin x y).1, (signed_fin x y).2]; simp only [absW, hc13, hc17, cond_true, cond_false]; rfl)
          exact ⟨_, Res.two (v := I64 (((-(x)) / y))) (v' := I64 ((-(((-(x)) % y))))) rfl rfl rfl, hfin, rfl⟩
        · refine WC.skip ?_
          refine WC.seq ?_
          refine WC.region ?_
          refine WL.move (v := I64 (((-(x)) / y))) rfl rfl ?_
          refine WL.move (v := I64 (((-(x)) % y))) rfl rfl ?_
          refine WL.assign (v := I64 (((-(x)) / y))) rfl rfl ?_
          refine WL.assign (v := I64 (((-(x)) % y))) rfl rfl ?_
          refine WL.nil ?_
          refine WC.ret ?_
          have hfin : .tuple #[I64 (((-(x)) / y)), I64 (((-(x)) % y))] = Value.tuple #[I64 (x.sdiv y), I64 (x.srem y)] := by
            first
              | (exfalso; simp [hc13, hc17] at hc30; done)
              | (exfalso; simp [hc13] at hc34; done)
              | (rw [(signed_fin x y).1, (signed_fin x y).2]; simp only [absW, hc13, hc17, cond_true, cond_false]; rfl)
          exact ⟨_, Res.two (v := I64 (((-(x)) / y))) (v' := I64 (((-(x)) % y))) rfl rfl rfl, hfin, rfl⟩
  · refine WC.skip ?_
    refine WC.seq ?_
    refine WC.seq ?_
    refine WC.region ?_
    refine WL.move (v := I64 (y)) rfl rfl ?_
    refine WL.bin rfl (vy := I64 (0#64)) rfl rfl (BinR.lss64) ?_
    refine WL.nil ?_
    refine WC.cond rfl (fun hc17 => ?_) (fun hc17 => ?_)
    · refine WC.region ?_
      refine WL.move (v := I64 (y)) rfl rfl ?_
      refine WL.call ca29 (rfl) rfl (neg_spec (y) _) ?_
      rintro _ _ ⟨rfl, rfl⟩
      refine WL.assign (v := I64 ((-(y)))) rfl rfl ?_
      refine WL.nil ?_
      refine WC.seq ?_
      refine WC.region ?_
      refine WL.move (v := I64 (x)) rfl rfl ?_
      refine WL.move (v := I64 ((-(y)))) rfl rfl ?_
      refine WL.call ca56 (rfl) rfl (divide_spec (x) ((-(y))) _ (by have := abs_ne y hb; simp only [absW, hc17] at this; exact this)) ?_
      rintro _ _ ⟨rfl, rfl⟩
      refine WL.move (v := .tuple #[I64 ((x / (-(y)))), I64 ((x % (-(y))))]) rfl rfl ?_
      refine WL.extract rfl rfl rfl ?_
      refine WL.extract rfl rfl rfl ?_
      refine WL.assign (v := I64 ((x / (-(y))))) rfl rfl ?_
      refine WL.assign (v := I64 ((x % (-(y))))) rfl rfl ?_
      refine WL.nil ?_
      refine WC.seq ?_
      refine WC.seq ?_
      refine WC.region ?_
      refine WL.move (v := I64 (x)) rfl rfl ?_
      refine WL.bin rfl (vy := I64 (0#64)) rfl rfl (BinR.lss64) ?_
      refine WL.move (v := I64 (y)) rfl rfl ?_
      refine WL.bin rfl (vy := I64 (0#64)) rfl rfl (BinR.lss64) ?_
      refine WL.bin rfl rfl rfl (BinR.neqB Tryd.underlying4) ?_
      refine WL.nil ?_
      refine WC.cond rfl (fun hc30 => ?_) (fun hc30 => ?_)
      · refine WC.region ?_
        refine WL.move (v := I64 ((x / (-(y))))) rfl rfl ?_
        refine WL.call ca29 (rfl) rfl (neg_spec ((x / (-(y)))) _) ?_
        rintro _ _ ⟨rfl, rfl⟩
        refine WL.assign (v := I64 ((-((x / (-(y))))))) rfl rfl ?_
        refine WL.nil ?_
        refine WC.seq ?_
        refine WC.seq ?_
        refine WC.region ?_
        refine WL.move (v := I64 (x)) rfl rfl ?_
        refine WL.bin rfl (vy := I64 (0#64)) rfl rfl (BinR.lss64) ?_
        refine WL.nil ?_
        refine WC.cond rfl (fun hc34 => ?_) (fun hc34 => ?_)
        · refine WC.region ?_
          refine WL.move (v := I64 ((x % (-(y))))) rfl rfl ?_
          refine WL.call ca29 (rfl) rfl (neg_spec ((x % (-(y)))) _) ?_
          rintro _ _ ⟨rfl, rfl⟩
          refine WL.assign (v := I64 ((-((x % (-(y))))))) rfl rfl ?_
          refine WL.nil ?_
          refine WC.seq ?_
          refine WC.region ?_
          refine WL.move (v := I64 ((-((x / (-(y))))))) rfl rfl ?_
          refine WL.move (v := I64 ((-((x % (-(y))))))) rfl rfl ?_
          refine WL.assign (v := I64 ((-((x / (-(y))))))) rfl rfl ?_
          refine WL.assign (v := I64 ((-((x % (-(y))))))) rfl rfl ?_
          refine WL.nil ?_
          refine WC.ret ?_
          have hfin : .tuple #[I64 ((-((x / (-(y)))))), I64 ((-((x % (-(y))))))] = Value.tuple #[I64 (x.sdiv y), I64 (x.srem y)] := by
            first
              | (exfalso; simp [hc13, hc17] at hc30; done)
              | (exfalso; simp [hc13] at hc34; done)
              | (rw [(signed_fin x y).1, (signed_fin x y).2]; simp only [absW, hc13, hc17, cond_true, cond_false]; rfl)
          exact ⟨_, Res.two (v := I64 ((-((x / (-(y))))))) (v' := I64 ((-((x % (-(y))))))) rfl rfl rfl, hfin, rfl⟩
        · refine WC.skip ?_
          refine WC.seq ?_
          refine WC.region ?_
          refine WL.move (v := I64 ((-((x / (-(y))))))) rfl rfl ?_
          refine WL.move (v := I64 ((x % (-(y))))) rfl rfl ?_
          refine WL.assign (v := I64 ((-((x / (-(y))))))) rfl rfl ?_
          refine WL.assign (v := I64 ((x % (-(y))))) rfl rfl ?_
          refine WL.nil ?_
          refine WC.ret ?_
          have hfin : .tuple #[I64 ((-((x / (-(y)))))), I64 ((x % (-(y))))] = Value.tuple #[I64 (x.sdiv y), I64 (x.srem y)] := by
            first
              | (exfalso; simp [hc13, hc17] at hc30; done)
              | (exfalso; simp [hc13] at hc34; done)
              | (rw [(signed_fin x y).1, (signed_fin x y).2]; simp only [absW, hc13, hc17, cond_true, cond_false]; rfl)
          exact ⟨_, Res.two (v := I64 ((-((x / (-(y))))))) (v' := I64 ((x % (-(y))))) rfl rfl rfl, hfin, rfl⟩
      · refine WC.skip ?_
        refine WC.seq ?_
        refine WC.seq ?_
        refine WC.region ?_
        refine WL.move (v := I64 (x)) rfl rfl ?_
        refine WL.bin rfl (vy := I64 (0#64)) rfl rfl (BinR.lss64) ?_
        refine WL.nil ?_
        refine WC.cond rfl (fun hc34 => ?_) (fun hc34 => ?_)
        · refine WC.region ?_
          refine WL.move (v := I64 ((x % (-(y))))) rfl rfl ?_
          refine WL.call ca29 (rfl) rfl (neg_spec ((x % (-(y)))) _) ?_
          rintro _ _ ⟨rfl, rfl⟩
          refine WL.assign (v := I64 ((-((x % (-(y))))))) rfl rfl ?_
          refine WL.nil ?_
          refine WC.seq ?_
          refine WC.region ?_
          refine WL.move (v := I64 ((x / (-(y))))) rfl rfl ?_
          refine WL.move (v := I64 ((-((x % (-(y))))))) rfl rfl ?_
          refine WL.assign (v := I64 ((x / (-(y))))) rfl rfl ?_
          refine WL.assign (v := I64 ((-((x % (-(y))))))) rfl rfl ?_
          refine WL.nil ?_
          refine WC.ret ?_
          have hfin : .tuple #[I64 ((x / (-(y)))), I64 ((-((x % (-(y))))))] = Value.tuple #[I64 (x.sdiv y), I64 (x.srem y)] := by
            first
              | (exfalso; simp [hc13, hc17] at hc30; done)
              | (exfalso; simp [hc13] at hc34; done)
              | (rw [(signed_fin x y).1, (signed_fin x y).2]; simp only [absW, hc13, hc17, cond_true, cond_false]; rfl)
          exact ⟨_, Res.two (v := I64 ((x / (-(y))))) (v' := I64 ((-((x % (-(y))))))) rfl rfl rfl, hfin, rfl⟩
        · refine WC.skip ?_
          refine WC.seq ?_
          refine WC.region ?_
          refine WL.move (v := I64 ((x / (-(y))))) rfl rfl ?_
          refine WL.move (v := I64 ((x % (-(y))))) rfl rfl ?_
          refine WL.assign (v := I64 ((x / (-(y))))) rfl rfl ?_
          refine WL.assign (v := I64 ((x % (-(y))))) rfl rfl ?_
          refine WL.nil ?_
          refine WC.ret ?_
          have hfin : .tuple #[I64 ((x / (-(y)))), I64 ((x % (-(y))))] = Value.tuple #[I64 (x.sdiv y), I64 (x.srem y)] := by
            first
              | (exfalso; simp [hc13, hc17] at hc30; done)
              | (exfalso; simp [hc13] at hc34; done)
              | (rw [(signed_fin x y).1, (signed_fin x y).2]; simp only [absW, hc13, hc17, cond_true, cond_false]; rfl)
          exact ⟨_, Res.two (v := I64 ((x / (-(y))))) (v' := I64 ((x % (-(y))))) rfl rfl rfl, hfin, rfl⟩
    · refine WC.skip ?_
      refine WC.seq ?_
      refine WC.region ?_
      refine WL.move (v := I64 (x)) rfl rfl ?_
      refine WL.move (v := I64 (y)) rfl rfl ?_
      refine WL.call ca56 (rfl) rfl (divide_spec (x) (y) _ (by have := abs_ne y hb; simp only [absW, hc17] at this; exact this)) ?_
      rintro _ _ ⟨rfl, rfl⟩
      refine WL.move (v := .tuple #[I64 ((x / y)), I64 ((x % y))]) rfl rfl ?_
      refine WL.extract rfl rfl rfl ?_
      refine WL.extract rfl rfl rfl ?_
      refine WL.assign (v := I64 ((x / y))) rfl rfl ?_
      refine WL.assign (v := I64 ((x % y))) rfl rfl ?_
      refine WL.nil ?_
      refine WC.seq ?_
      refine WC.seq ?_
      refine WC.region ?_
      refine WL.move (v := I64 (x)) rfl rfl ?_
      refine WL.bin rfl (vy := I64 (0#64)) rfl rfl (BinR.lss64) ?_
      refine WL.move (v := I64 (y)) rfl rfl ?_
      refine WL.bin rfl (vy := I64 (0#64)) rfl rfl (BinR.lss64) ?_
      refine WL.bin rfl rfl rfl (BinR.neqB Tryd.underlying4) ?_
      refine WL.nil ?_
      refine WC.cond rfl (fun hc30 => ?_) (fun hc30 => ?_)
      · refine WC.region ?_
        refine WL.move (v := I64 ((x / y))) rfl rfl ?_
        refine WL.call ca29 (rfl) rfl (neg_spec ((x / y)) _) ?_
        rintro _ _ ⟨rfl, rfl⟩
        refine WL.assign (v := I64 ((-((x / y))))) rfl rfl ?_
        refine WL.nil ?_
        refine WC.seq ?_
        refine WC.seq ?_
        refine WC.region ?_
        refine WL.move (v := I64 (x)) rfl rfl ?_
        refine WL.bin rfl (vy := I64 (0#64)) rfl rfl (BinR.lss64) ?_
        refine WL.nil ?_
        refine WC.cond rfl (fun hc34 => ?_) (fun hc34 => ?_)
        · refine WC.region ?_
          refine WL.move (v := I64 ((x % y))) rfl rfl ?_
          refine WL.call ca29 (rfl) rfl (neg_spec ((x % y)) _) ?_
          rintro _ _ ⟨rfl, rfl⟩
          refine WL.assign (v := I64 ((-((x % y))))) rfl rfl ?_
          refine WL.nil ?_
          refine WC.seq ?_
          refine WC.region ?_
          refine WL.move (v := I64 ((-((x / y))))) rfl rfl ?_
          refine WL.move (v := I64 ((-((x % y))))) rfl rfl ?_
          refine WL.assign (v := I64 ((-((x / y))))) rfl rfl ?_
          refine WL.assign (v := I64 ((-((x % y))))) rfl rfl ?_
          refine WL.nil ?_
          refine WC.ret ?_
          have hfin : .tuple #[I64 ((-((x / y)))), I64 ((-((x % y))))] = Value.tuple #[I64 (x.sdiv y), I64 (x.srem y)] := by
            first
              | (exfalso; simp [hc13, hc17] at hc30; done)
              | (exfalso; simp [hc13] at hc34; done)
              | (rw [(signed_fin x y).1, (signed_fin x y).2]; simp only [absW, hc13, hc17, cond_true, cond_false]; rfl)
          exact ⟨_, Res.two (v := I64 ((-((x / y))))) (v' := I64 ((-((x % y))))) rfl rfl rfl, hfin, rfl⟩
        · refine WC.skip ?_
          refine WC.seq ?_
          refine WC.region ?_
          refine WL.move (v := I64 ((-((x / y))))) rfl rfl ?_
          refine WL.move (v := I64 ((x % y))) rfl rfl ?_
          refine WL.assign (v := I64 ((-((x / y))))) rfl rfl ?_
          refine WL.assign (v := I64 ((x % y))) rfl rfl ?_
          refine WL.nil ?_
          refine WC.ret ?_
          have hfin : .tuple #[I64 ((-((x / y)))), I64 ((x % y))] = Value.tuple #[I64 (x.sdiv y), I64 (x.srem y)] := by
            first
              | (exfalso; simp [hc13, hc17] at hc30; done)
              | (exfalso; simp [hc13] at hc34; done)
              | (rw [(signed_fin x y).1, (signed_fin x y).2]; simp only [absW, hc13, hc17, cond_true, cond_false]; rfl)
          exact ⟨_, Res.two (v := I64 ((-((x / y))))) (v' := I64 ((x % y))) rfl rfl rfl, hfin, rfl⟩
      · refine WC.skip ?_
        refine WC.seq ?_
        refine WC.seq ?_
        refine WC.region ?_
        refine WL.move (v := I64 (x)) rfl rfl ?_
        refine WL.bin rfl (vy := I64 (0#64)) rfl rfl (BinR.lss64) ?_
        refine WL.nil ?_
        refine WC.cond rfl (fun hc34 => ?_) (fun hc34 => ?_)
        · refine WC.region ?_
          refine WL.move (v := I64 ((x % y))) rfl rfl ?_
          refine WL.call ca29 (rfl) rfl (neg_spec ((x % y)) _) ?_
          rintro _ _ ⟨rfl, rfl⟩
          refine WL.assign (v := I64 ((-((x % y))))) rfl rfl ?_
          refine WL.nil ?_
          refine WC.seq ?_
          refine WC.region ?_
          refine WL.move (v := I64 ((x / y))) rfl rfl ?_
          refine WL.move (v := I64 ((-((x % y))))) rfl rfl ?_
          refine WL.assign (v := I64 ((x / y))) rfl rfl ?_
          refine WL.assign (v := I64 ((-((x % y))))) rfl rfl ?_
          refine WL.nil ?_
          refine WC.ret ?_
          have hfin : .tuple #[I64 ((x / y)), I64 ((-((x % y))))] = Value.tuple #[I64 (x.sdiv y), I64 (x.srem y)] := by
            first
              | (exfalso; simp [hc13, hc17] at hc30; done)
              | (exfalso; simp [hc13] at hc34; done)
              | (rw [(signed_fin x y).1, (signed_fin x y).2]; simp only [absW, hc13, hc17, cond_true, cond_false]; rfl)
          exact ⟨_, Res.two (v := I64 ((x / y))) (v' := I64 ((-((x % y))))) rfl rfl rfl, hfin, rfl⟩
        · refine WC.skip ?_
          refine WC.seq ?_
          refine WC.region ?_
          refine WL.move (v := I64 ((x / y))) rfl rfl ?_
          refine WL.move (v := I64 ((x % y))) rfl rfl ?_
          refine WL.assign (v := I64 ((x / y))) rfl rfl ?_
          refine WL.assign (v := I64 ((x % y))) rfl rfl ?_
          refine WL.nil ?_
          refine WC.ret ?_
          have hfin : .tuple #[I64 ((x / y)), I64 ((x % y))] = Value.tuple #[I64 (x.sdiv y), I64 (x.srem y)] := by
            first
              | (exfalso; simp [hc13, hc17] at hc30; done)
              | (exfalso; simp [hc13] at hc34; done)
              | (rw [(signed_fin x y).1, (signed_fin x y).2]; simp only [absW, hc13, hc17, cond_true, cond_false]; rfl)
          exact ⟨_, Res.two (v := I64 ((x / y))) (v' := I64 ((x % y))) rfl rfl rfl, hfin, rfl⟩

theorem quot4_spec (x y : BitVec 64) (w : World) : CallsR Tryd.prog 31 #[.int .u8 (4), I64 (x), I64 (y)] w (fun v w' => v = I64 (opW 4 x y) ∧ w = w') := by
  refine callsR_of Tryd.func31 rfl rfl rfl ?_
  refine WC.seq ?_
  refine WC.region ?_
  refine WL.assign (v := I64 (0#64)) rfl rfl ?_
  refine WL.nil ?_
  refine WC.seq ?_
  refine WC.seq ?_
  refine WC.region ?_
  refine WL.move (v := I64 (y)) rfl rfl ?_
  refine WL.bin rfl (vy := I64 (0#64)) rfl rfl (BinR.eql64) ?_
  refine WL.nil ?_
  refine WC.cond rfl (fun hc10 => ?_) (fun hc10 => ?_)
  · have hb : y = 0#64 := by simpa using hc10
    refine WC.seq ?_
    refine WC.seq ?_
    refine WC.region ?_
    refine WL.move (v := .int .u8 (4)) rfl rfl ?_
    refine WL.bin rfl rfl rfl (BinR.eql) ?_
    refine WL.move (v := .bool (true)) rfl rfl ?_
    refine WL.guardF (b' := true) (rfl) rfl rfl ?_
    refine WL.guardF (b' := true) (rfl) rfl rfl ?_
    refine WL.pick (b := true) rfl rfl rfl ?_
    refine WL.nil ?_
    refine WC.condT rfl ?_
    refine WC.seq ?_
    refine WC.region ?_
    refine WL.assign (v := I64 (BitVec.ofInt 64 (-1))) (cI64 _ (by decide)) rfl ?_
    refine WL.nil ?_
    refine WC.ret ?_
    have hfin : (I64 (BitVec.ofInt 64 (-1))) = I64 (opW 4 x y) := by first | exact (congrArg I64 (if_pos hb)).symm | exact (congrArg I64 (if_neg hb)).symm
    exact ⟨_, Res.one (v := I64 (BitVec.ofInt 64 (-1))) rfl rfl, hfin, rfl⟩
  · have hb : y ≠ 0#64 := by simpa using hc10
    refine WC.skip ?_
    refine WC.seq ?_
    refine WC.region ?_
    refine WL.move (v := I64 (x)) rfl rfl ?_
    refine WL.move (v := I64 (y)) rfl rfl ?_
    refine WL.call ca56 (rfl) rfl (divide_spec (x) (y) _ hb) ?_
    rintro _ _ ⟨rfl, rfl⟩
    refine WL.move (v := .tuple #[I64 ((x / y)), I64 ((x % y))]) rfl rfl ?_
    refine WL.extract rfl rfl rfl ?_
    refine WL.extract rfl rfl rfl ?_
    refine WL.assign (v := I64 ((x / y))) rfl rfl ?_
    refine WL.assign (v := I64 ((x % y))) rfl rfl ?_
    refine WL.nil ?_
    refine WC.seq ?_
    refine WC.seq ?_
    refine WC.region ?_
    refine WL.move (v := .int .u8 (4)) rfl rfl ?_
    refine WL.bin rfl rfl rfl (BinR.eql) ?_
    refine WL.move (v := .bool (true)) rfl rfl ?_
    refine WL.guardF (b' := true) (rfl) rfl rfl ?_
    refine WL.guardF (b' := true) (rfl) rfl rfl ?_
    refine WL.pick (b := true) rfl rfl rfl ?_
    refine WL.nil ?_
    refine WC.condT rfl ?_
    refine WC.region ?_
    refine WL.move (v := I64 (x)) rfl rfl ?_
    refine WL.move (v := I64 (y)) rfl rfl ?_
    refine WL.call ca57 (rfl) rfl (signed_spec (x) (y) _ hb) ?_
    rintro _ _ ⟨rfl, rfl⟩
    refine WL.move (v := .tuple #[I64 ((BitVec.sdiv (x) (y))), I64 ((BitVec.srem (x) (y)))]) rfl rfl ?_
    refine WL.extract rfl rfl rfl ?_
    refine WL.extract rfl rfl rfl ?_
    refine WL.assign (v := I64 ((BitVec.sdiv (x) (y)))) rfl rfl ?_
    refine WL.assign (v := I64 ((BitVec.srem (x) (y)))) rfl rfl ?_
    refine WL.nil ?_
    refine WC.seq ?_
    refine WC.seq ?_
    refine WC.region ?_
    refine WL.move (v := .int .u8 (4)) rfl rfl ?_
    refine WL.bin rfl rfl rfl (BinR.eql) ?_
    refine WL.move (v := .bool (true)) rfl rfl ?_
    refine WL.guardF (b' := true) (rfl) rfl rfl ?_
    refine WL.guardF (b' := true) (rfl) rfl rfl ?_
    refine WL.pick (b := true) rfl rfl rfl ?_
    refine WL.nil ?_
    refine WC.condT rfl ?_
    refine WC.seq ?_
    refine WC.region ?_
    refine WL.move (v := I64 ((BitVec.sdiv (x) (y)))) rfl rfl ?_
    refine WL.assign (v := I64 ((BitVec.sdiv (x) (y)))) rfl rfl ?_
    refine WL.nil ?_
    refine WC.ret ?_
    have hfin : (I64 ((BitVec.sdiv (x) (y)))) = I64 (opW 4 x y) := by first | exact (congrArg I64 (if_pos hb)).symm | exact (congrArg I64 (if_neg hb)).symm
    exact ⟨_, Res.one (v := I64 ((BitVec.sdiv (x) (y)))) rfl rfl, hfin, rfl⟩

theorem quot5_spec (x y : BitVec 64) (w : World) : CallsR Tryd.prog 31 #[.int .u8 (5), I64 (x), I64 (y)] w (fun v w' => v = I64 (opW 5 x y) ∧ w = w') := by
  refine callsR_of Tryd.func31 rfl rfl rfl ?_
  refine WC.seq ?_
  refine WC.region ?_
  refine WL.assign (v := I64 (0#64)) rfl rfl ?_
  refine WL.nil ?_
  refine WC.seq ?_
  refine WC.seq ?_
  refine WC.region ?_
  refine WL.move (v := I64 (y)) rfl rfl ?_
  refine WL.bin rfl (vy := I64 (0#64)) rfl rfl (BinR.eql64) ?_
  refine WL.nil ?_
  refine WC.cond rfl (fun hc10 => ?_) (fun hc10 => ?_)
  · have hb : y = 0#64 := by simpa using hc10
    refine WC.seq ?_
    refine WC.seq ?_
    refine WC.region ?_
    refine WL.move (v := .int .u8 (5)) rfl rfl ?_
    refine WL.bin rfl rfl rfl (BinR.eql) ?_
    refine WL.move (v := .bool (false)) rfl rfl ?_
    refine WL.guardT (rfl) ?_
    refine WL.move (v := .int .u8 (5)) rfl rfl ?_
    refine WL.guardT (rfl) ?_
    refine WL.bin rfl rfl rfl (BinR.eql) ?_
    refine WL.pick (b := false) rfl rfl rfl ?_
    refine WL.nil ?_
    refine WC.condF rfl ?_
    refine WC.skip ?_
    refine WC.seq ?_
    refine WC.region ?_
    refine WL.move (v := I64 (x)) rfl rfl ?_
    refine WL.assign (v := I64 (x)) rfl rfl ?_
    refine WL.nil ?_
    refine WC.ret ?_
    have hfin : (I64 (x)) = I64 (opW 5 x y) := by first | exact (congrArg I64 (if_pos hb)).symm | exact (congrArg I64 (if_neg hb)).symm
    exact ⟨_, Res.one (v := I64 (x)) rfl rfl, hfin, rfl⟩
  · have hb : y ≠ 0#64 := by simpa using hc10
    refine WC.skip ?_
    refine WC.seq ?_
    refine WC.region ?_
    refine WL.move (v := I64 (x)) rfl rfl ?_
    refine WL.move (v := I64 (y)) rfl rfl ?_
    refine WL.call ca56 (rfl) rfl (divide_spec (x) (y) _ hb) ?_
    rintro _ _ ⟨rfl, rfl⟩
    refine WL.move (v := .tuple #[I64 ((x / y)), I64 ((x % y))]) rfl rfl ?_
    refine WL.extract rfl rfl rfl ?_
    refine WL.extract rfl rfl rfl ?_
    refine WL.assign (v := I64 ((x / y))) rfl rfl ?_
    refine WL.assign (v := I64 ((x % y))) rfl rfl ?_
    refine WL.nil ?_
    refine WC.seq ?_
    refine WC.seq ?_
    refine WC.region ?_
    refine WL.move (v := .int .u8 (5)) rfl rfl ?_
    refine WL.bin rfl rfl rfl (BinR.eql) ?_
    refine WL.move (v := .bool (false)) rfl rfl ?_
    refine WL.guardT (rfl) ?_
    refine WL.move (v := .int .u8 (5)) rfl rfl ?_
    refine WL.guardT (rfl) ?_
    refine WL.bin rfl rfl rfl (BinR.eql) ?_
    refine WL.pick (b := false) rfl rfl rfl ?_
    refine WL.nil ?_
    refine WC.condT rfl ?_
    refine WC.region ?_
    refine WL.move (v := I64 (x)) rfl rfl ?_
    refine WL.move (v := I64 (y)) rfl rfl ?_
    refine WL.call ca57 (rfl) rfl (signed_spec (x) (y) _ hb) ?_
    rintro _ _ ⟨rfl, rfl⟩
    refine WL.move (v := .tuple #[I64 ((BitVec.sdiv (x) (y))), I64 ((BitVec.srem (x) (y)))]) rfl rfl ?_
    refine WL.extract rfl rfl rfl ?_
    refine WL.extract rfl rfl rfl ?_
    refine WL.assign (v := I64 ((BitVec.sdiv (x) (y)))) rfl rfl ?_
    refine WL.assign (v := I64 ((BitVec.srem (x) (y)))) rfl rfl ?_
    refine WL.nil ?_
    refine WC.seq ?_
    refine WC.seq ?_
    refine WC.region ?_
    refine WL.move (v := .int .u8 (5)) rfl rfl ?_
    refine WL.bin rfl rfl rfl (BinR.eql) ?_
    refine WL.move (v := .bool (false)) rfl rfl ?_
    refine WL.guardT (rfl) ?_
    refine WL.move (v := .int .u8 (5)) rfl rfl ?_
    refine WL.guardT (rfl) ?_
    refine WL.bin rfl rfl rfl (BinR.eql) ?_
    refine WL.pick (b := false) rfl rfl rfl ?_
    refine WL.nil ?_
    refine WC.condF rfl ?_
    refine WC.skip ?_
    refine WC.seq ?_
    refine WC.region ?_
    refine WL.move (v := I64 ((BitVec.srem (x) (y)))) rfl rfl ?_
    refine WL.assign (v := I64 ((BitVec.srem (x) (y)))) rfl rfl ?_
    refine WL.nil ?_
    refine WC.ret ?_
    have hfin : (I64 ((BitVec.srem (x) (y)))) = I64 (opW 5 x y) := by first | exact (congrArg I64 (if_pos hb)).symm | exact (congrArg I64 (if_neg hb)).symm
    exact ⟨_, Res.one (v := I64 ((BitVec.srem (x) (y)))) rfl rfl, hfin, rfl⟩

theorem quot6_spec (x y : BitVec 64) (w : World) : CallsR Tryd.prog 31 #[.int .u8 (6), I64 (x), I64 (y)] w (fun v w' => v = I64 (opW 6 x y) ∧ w = w') := by
  refine callsR_of Tryd.func31 rfl rfl rfl ?_
  refine WC.seq ?_
  refine WC.region ?_
  refine WL.assign (v := I64 (0#64)) rfl rfl ?_
  refine WL.nil ?_
  refine WC.seq ?_
  refine WC.seq ?_
  refine WC.region ?_
  refine WL.move (v := I64 (y)) rfl rfl ?_
  refine WL.bin rfl (vy := I64 (0#64)) rfl rfl (BinR.eql64) ?_
  refine WL.nil ?_
  refine WC.cond rfl (fun hc10 => ?_) (fun hc10 => ?_)
  · have hb : y = 0#64 := by simpa using hc10
    refine WC.seq ?_
    refine WC.seq ?_
    refine WC.region ?_
    refine WL.move (v := .int .u8 (6)) rfl rfl ?_
    refine WL.bin rfl rfl rfl (BinR.eql) ?_
    refine WL.move (v := .bool (false)) rfl rfl ?_
    refine WL.guardT (rfl) ?_
    refine WL.move (v := .int .u8 (6)) rfl rfl ?_
    refine WL.guardT (rfl) ?_
    refine WL.bin rfl rfl rfl (BinR.eql) ?_
    refine WL.pick (b := false) rfl rfl rfl ?_
    refine WL.nil ?_
    refine WC.condT rfl ?_
    refine WC.seq ?_
    refine WC.region ?_
    refine WL.assign (v := I64 (BitVec.ofInt 64 (-1))) (cI64 _ (by decide)) rfl ?_
    refine WL.nil ?_
    refine WC.ret ?_
    have hfin : (I64 (BitVec.ofInt 64 (-1))) = I64 (opW 6 x y) := by first | exact (congrArg I64 (if_pos hb)).symm | exact (congrArg I64 (if_neg hb)).symm
    exact ⟨_, Res.one (v := I64 (BitVec.ofInt 64 (-1))) rfl rfl, hfin, rfl⟩
  · have hb : y ≠ 0#64 := by simpa using hc10
    refine WC.skip ?_
    refine WC.seq ?_
    refine WC.region ?_
    refine WL.move (v := I64 (x)) rfl rfl ?_
    refine WL.move (v := I64 (y)) rfl rfl ?_
    refine WL.call ca56 (rfl) rfl (divide_spec (x) (y) _ hb) ?_
    rintro _ _ ⟨rfl, rfl⟩
    refine WL.move (v := .tuple #[I64 ((x / y)), I64 ((x % y))]) rfl rfl ?_
    refine WL.extract rfl rfl rfl ?_
    refine WL.extract rfl rfl rfl ?_
    refine WL.assign (v := I64 ((x / y))) rfl rfl ?_
    refine WL.assign (v := I64 ((x % y))) rfl rfl ?_
    refine WL.nil ?_
    refine WC.seq ?_
    refine WC.seq ?_
    refine WC.region ?_
    refine WL.move (v := .int .u8 (6)) rfl rfl ?_
    refine WL.bin rfl rfl rfl (BinR.eql) ?_
    refine WL.move (v := .bool (false)) rfl rfl ?_
    refine WL.guardT (rfl) ?_
    refine WL.move (v := .int .u8 (6)) rfl rfl ?_
    refine WL.guardT (rfl) ?_
    refine WL.bin rfl rfl rfl (BinR.eql) ?_
    refine WL.pick (b := false) rfl rfl rfl ?_
    refine WL.nil ?_
    refine WC.condF rfl ?_
    refine WC.skip ?_
    refine WC.seq ?_
    refine WC.seq ?_
    refine WC.region ?_
    refine WL.move (v := .int .u8 (6)) rfl rfl ?_
    refine WL.bin rfl rfl rfl (BinR.eql) ?_
    refine WL.move (v := .bool (false)) rfl rfl ?_
    refine WL.guardT (rfl) ?_
    refine WL.move (v := .int .u8 (6)) rfl rfl ?_
    refine WL.guardT (rfl) ?_
    refine WL.bin rfl rfl rfl (BinR.eql) ?_
    refine WL.pick (b := false) rfl rfl rfl ?_
    refine WL.nil ?_
    refine WC.condT rfl ?_
    refine WC.seq ?_
    refine WC.region ?_
    refine WL.move (v := I64 ((x / y))) rfl rfl ?_
    refine WL.assign (v := I64 ((x / y))) rfl rfl ?_
    refine WL.nil ?_
    refine WC.ret ?_
    have hfin : (I64 ((x / y))) = I64 (opW 6 x y) := by first | exact (congrArg I64 (if_pos hb)).symm | exact (congrArg I64 (if_neg hb)).symm
    exact ⟨_, Res.one (v := I64 ((x / y))) rfl rfl, hfin, rfl⟩

theorem quot7_spec (x y : BitVec 64) (w : World) : CallsR Tryd.prog 31 #[.int .u8 (7), I64 (x), I64 (y)] w (fun v w' => v = I64 (opW 7 x y) ∧ w = w') := by
  refine callsR_of Tryd.func31 rfl rfl rfl ?_
  refine WC.seq ?_
  refine WC.region ?_
  refine WL.assign (v := I64 (0#64)) rfl rfl ?_
  refine WL.nil ?_
  refine WC.seq ?_
  refine WC.seq ?_
  refine WC.region ?_
  refine WL.move (v := I64 (y)) rfl rfl ?_
  refine WL.bin rfl (vy := I64 (0#64)) rfl rfl (BinR.eql64) ?_
  refine WL.nil ?_
  refine WC.cond rfl (fun hc10 => ?_) (fun hc10 => ?_)
  · have hb : y = 0#64 := by simpa using hc10
    refine WC.seq ?_
    refine WC.seq ?_
    refine WC.region ?_
    refine WL.move (v := .int .u8 (7)) rfl rfl ?_
    refine WL.bin rfl rfl rfl (BinR.eql) ?_
    refine WL.move (v := .bool (false)) rfl rfl ?_
    refine WL.guardT (rfl) ?_
    refine WL.move (v := .int .u8 (7)) rfl rfl ?_
    refine WL.guardT (rfl) ?_
    refine WL.bin rfl rfl rfl (BinR.eql) ?_
    refine WL.pick (b := false) rfl rfl rfl ?_
    refine WL.nil ?_
    refine WC.condF rfl ?_
    refine WC.skip ?_
    refine WC.seq ?_
    refine WC.region ?_
    refine WL.move (v := I64 (x)) rfl rfl ?_
    refine WL.assign (v := I64 (x)) rfl rfl ?_
    refine WL.nil ?_
    refine WC.ret ?_
    have hfin : (I64 (x)) = I64 (opW 7 x y) := by first | exact (congrArg I64 (if_pos hb)).symm | exact (congrArg I64 (if_neg hb)).symm
    exact ⟨_, Res.one (v := I64 (x)) rfl rfl, hfin, rfl⟩
  · have hb : y ≠ 0#64 := by simpa using hc10
    refine WC.skip ?_
    refine WC.seq ?_
    refine WC.region ?_
    refine WL.move (v := I64 (x)) rfl rfl ?_
    refine WL.move (v := I64 (y)) rfl rfl ?_
    refine WL.call ca56 (rfl) rfl (divide_spec (x) (y) _ hb) ?_
    rintro _ _ ⟨rfl, rfl⟩
    refine WL.move (v := .tuple #[I64 ((x / y)), I64 ((x % y))]) rfl rfl ?_
    refine WL.extract rfl rfl rfl ?_
    refine WL.extract rfl rfl rfl ?_
    refine WL.assign (v := I64 ((x / y))) rfl rfl ?_
    refine WL.assign (v := I64 ((x % y))) rfl rfl ?_
    refine WL.nil ?_
    refine WC.seq ?_
    refine WC.seq ?_
    refine WC.region ?_
    refine WL.move (v := .int .u8 (7)) rfl rfl ?_
    refine WL.bin rfl rfl rfl (BinR.eql) ?_
    refine WL.move (v := .bool (false)) rfl rfl ?_
    refine WL.guardT (rfl) ?_
    refine WL.move (v := .int .u8 (7)) rfl rfl ?_
    refine WL.guardT (rfl) ?_
    refine WL.bin rfl rfl rfl (BinR.eql) ?_
    refine WL.pick (b := false) rfl rfl rfl ?_
    refine WL.nil ?_
    refine WC.condF rfl ?_
    refine WC.skip ?_
    refine WC.seq ?_
    refine WC.seq ?_
    refine WC.region ?_
    refine WL.move (v := .int .u8 (7)) rfl rfl ?_
    refine WL.bin rfl rfl rfl (BinR.eql) ?_
    refine WL.move (v := .bool (false)) rfl rfl ?_
    refine WL.guardT (rfl) ?_
    refine WL.move (v := .int .u8 (7)) rfl rfl ?_
    refine WL.guardT (rfl) ?_
    refine WL.bin rfl rfl rfl (BinR.eql) ?_
    refine WL.pick (b := false) rfl rfl rfl ?_
    refine WL.nil ?_
    refine WC.condF rfl ?_
    refine WC.skip ?_
    refine WC.seq ?_
    refine WC.region ?_
    refine WL.move (v := I64 ((x % y))) rfl rfl ?_
    refine WL.assign (v := I64 ((x % y))) rfl rfl ?_
    refine WL.nil ?_
    refine WC.ret ?_
    have hfin : (I64 ((x % y))) = I64 (opW 7 x y) := by first | exact (congrArg I64 (if_pos hb)).symm | exact (congrArg I64 (if_neg hb)).symm
    exact ⟨_, Res.one (v := I64 ((x % y))) rfl rfl, hfin, rfl⟩
end Go.Proofs.W
