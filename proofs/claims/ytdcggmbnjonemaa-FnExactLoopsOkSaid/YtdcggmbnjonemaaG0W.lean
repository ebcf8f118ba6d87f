/- Walks: are points right?. -/
import Derived.Test.YtdcggmbnjonemaaG0V

namespace Go.Proofs.Ytdcggmbnjonemaa
open Go Go.RowKit
set_option linter.unusedSimpArgs false
set_option linter.unusedVariables false
set_option maxRecDepth 100000
attribute [local simp] List.getElem?_cons_zero List.getElem?_cons_succ List.getElem?_toArray runOps stepOp.eq_def agd.eq_def dstOk.eq_def opVal.eq_def opNew.eq_def opSto.eq_def ev.eq_def cv.eq_def puts_some puts_none upd_ap lst.eq_def aBin.eq_def aUn.eq_def aBi_str aBi_isl aBi_osl aBi_nsl aBi_max aBi_min aBi_max3 aConv.eq_def aLd.eq_def aLoad.eq_def aField.eq_def aFld.eq_def aIdx_isl aIdx_osl aSlc_isl aSlc_osl aSlc_str aSlc_nsl bnd.eq_def evs_nil evs_cons aBuild.eq_def aFill splice.eq_def cells_agg cells_int cells_bool cells_str cells_nil cells_nsl cells_isl cells_osl cells_ptr cells_ip cells_fn cells_Wd one_int one_bool one_str one_nil one_nsl one_isl one_osl one_ptr one_ip one_fn one_Wd aSets hupd_eq hupd_ne wrap_i64s wrap_u64s wrap_u32s wrap_u8s wd_getD wd_set wd_len wd_replicate wd_one wd_fold fz_osl hupd_same aSix.eq_def aEqS.eq_def aEqB_bool aEqB_nsl aEqB_nil

set_option maxHeartbeats 1000000 in
theorem l3Of_fc (p : Pt) (hp : p.ok) : FC Try.prog 50 [p.av] (l3A p.x.v p.y.v p.w.v) := by
  
  refine FC.body Try.func50 rfl (by simp [idfL, idf, idfLL_iff, idf_Wd', idf_numS, cells_numS, numS_fold, idf_numI, cells_numI, numI_fold, Pt.av, Pt.cells, wdI]) (by simp [idfL, idf, l3A, l3C, idf_Wd']) 13 rfl fun nx K hK => ?_
  refine AWP.seqk fun K1 hK1 => ?_
  refine AWP.region (AOPS.all (by simp (disch := first | omega | (simp only [List.length_append, List.length_cons, List.length_nil, List.length_set, List.length_replicate, Int.toNat_natCast]; omega)) [szT33, agT33, flT33, zoT33, byT33, szT35, agT35, flT35, zoT35, byT35, szT92, agT92, flT92, zoT92, byT92, szT94, agT94, flT94, zoT94, byT94, fdT35_0, fdT35_1, fdT35_2, fdT94_0, fdT94_1, fdT94_2, idf_Wd', idf_numS, cells_numS, numS_fold, idf_numI, cells_numI, numI_fold, Pt.av, Pt.cells, wdI]; rfl) ?_)
  refine hK1 _ ?_
  refine AWP.seqk fun K2 hK2 => ?_
  refine AWP.draw 10 Try.checked.mixed (by kernel_rfl) (by simp) ?_
  simp only [List.take_succ_cons, List.take_zero, List.drop_succ_cons, List.drop_zero]
  refine DP.runFk 2 (by simp (disch := first | omega | (simp only [List.length_append, List.length_cons, List.length_nil, List.length_set, List.length_replicate, Int.toNat_natCast]; omega)) [runDf.eq_def, runF1, runF2, stepF.eq_def, updo.eq_def, hupo.eq_def, opSto1.eq_def, List.take_succ_cons, List.take_zero, szT31, agT31, unT31, zoT31, byT31, szT33, agT33, flT33, zoT33, byT33, szT35, agT35, flT35, zoT35, byT35, szT92, agT92, flT92, zoT92, byT92, szT94, agT94, flT94, zoT94, byT94, fdT33_0, fdT33_1, fdT33_2, fdT33_3, fdT35_0, fdT35_1, fdT35_2, fdT94_0, fdT94_1, fdT94_2, idf_Wd', idf_numS, cells_numS, numS_fold, idf_numI, cells_numI, numI_fold, Pt.av, Pt.cells, wdI]; rfl) fun fs3 hfs3 => ?_
  replace hfs3 : fs3.length = 2 := hfs3.trans rfl
  simp only [List.drop_succ_cons, List.drop_zero]
  refine DP.fcall (l1From_fc p.x.a p.x.b p.x.c p.x.d hp.1.1 hp.1.2.1 hp.1.2.2.1 hp.1.2.2.2) rfl rfl rfl hb106 (by simp (disch := first | omega | (simp only [List.length_append, List.length_cons, List.length_nil, List.length_set, List.length_replicate, Int.toNat_natCast]; omega)) [idf_Wd', idf_Wd', idf_numS, cells_numS, numS_fold, idf_numI, cells_numI, numI_fold, Pt.av, Pt.cells, wdI]) (by simp (disch := first | omega | (simp only [List.length_append, List.length_cons, List.length_nil, List.length_set, List.length_replicate, Int.toNat_natCast]; omega))) (by simp) ?_
  simp only [updo]
  refine DP.runFk 2 (by simp (disch := first | omega | (simp only [List.length_append, List.length_cons, List.length_nil, List.length_set, List.length_replicate, Int.toNat_natCast]; omega)) [runDf.eq_def, runF1, runF2, stepF.eq_def, updo.eq_def, hupo.eq_def, opSto1.eq_def, List.take_succ_cons, List.take_zero, szT31, agT31, unT31, zoT31, byT31, szT33, agT33, flT33, zoT33, byT33, szT35, agT35, flT35, zoT35, byT35, szT92, agT92, flT92, zoT92, byT92, szT94, agT94, flT94, zoT94, byT94, fdT33_0, fdT33_1, fdT33_2, fdT33_3, fdT35_0, fdT35_1, fdT35_2, fdT94_0, fdT94_1, fdT94_2, idf_Wd', idf_numS, cells_numS, numS_fold, idf_numI, cells_numI, numI_fold, Pt.av, Pt.cells, wdI]; rfl) fun fs4 hfs4 => ?_
  replace hfs4 : fs4.length = 2 := hfs4.trans rfl
  simp only [List.drop_succ_cons, List.drop_zero]
  refine DP.fcall (l1From_fc p.y.a p.y.b p.y.c p.y.d hp.2.1.1 hp.2.1.2.1 hp.2.1.2.2.1 hp.2.1.2.2.2) rfl rfl rfl hb106 (by simp (disch := first | omega | (simp only [List.length_append, List.length_cons, List.length_nil, List.length_set, List.length_replicate, Int.toNat_natCast]; omega)) [idf_Wd', idf_Wd', idf_numS, cells_numS, numS_fold, idf_numI, cells_numI, numI_fold, Pt.av, Pt.cells, wdI]) (by simp (disch := first | omega | (simp only [List.length_append, List.length_cons, List.length_nil, List.length_set, List.length_replicate, Int.toNat_natCast]; omega))) (by simp) ?_
  simp only [updo]
  refine DP.runFk 2 (by simp (disch := first | omega | (simp only [List.length_append, List.length_cons, List.length_nil, List.length_set, List.length_replicate, Int.toNat_natCast]; omega)) [runDf.eq_def, runF1, runF2, stepF.eq_def, updo.eq_def, hupo.eq_def, opSto1.eq_def, List.take_succ_cons, List.take_zero, szT31, agT31, unT31, zoT31, byT31, szT33, agT33, flT33, zoT33, byT33, szT35, agT35, flT35, zoT35, byT35, szT92, agT92, flT92, zoT92, byT92, szT94, agT94, flT94, zoT94, byT94, fdT33_0, fdT33_1, fdT33_2, fdT33_3, fdT35_0, fdT35_1, fdT35_2, fdT94_0, fdT94_1, fdT94_2, idf_Wd', idf_numS, cells_numS, numS_fold, idf_numI, cells_numI, numI_fold, Pt.av, Pt.cells, wdI]; rfl) fun fs5 hfs5 => ?_
  replace hfs5 : fs5.length = 2 := hfs5.trans rfl
  simp only [List.drop_succ_cons, List.drop_zero]
  refine DP.fcall (l1From_fc p.w.a p.w.b p.w.c p.w.d hp.2.2.1 hp.2.2.2.1 hp.2.2.2.2.1 hp.2.2.2.2.2) rfl rfl rfl hb106 (by simp (disch := first | omega | (simp only [List.length_append, List.length_cons, List.length_nil, List.length_set, List.length_replicate, Int.toNat_natCast]; omega)) [idf_Wd', idf_Wd', idf_numS, cells_numS, numS_fold, idf_numI, cells_numI, numI_fold, Pt.av, Pt.cells, wdI]) (by simp (disch := first | omega | (simp only [List.length_append, List.length_cons, List.length_nil, List.length_set, List.length_replicate, Int.toNat_natCast]; omega))) (by simp) ?_
  simp only [updo]
  refine DP.runFk 1 (by simp (disch := first | omega | (simp only [List.length_append, List.length_cons, List.length_nil, List.length_set, List.length_replicate, Int.toNat_natCast]; omega)) [runDf.eq_def, runF1, runF2, stepF.eq_def, updo.eq_def, hupo.eq_def, opSto1.eq_def, List.take_succ_cons, List.take_zero, szT31, agT31, unT31, zoT31, byT31, szT33, agT33, flT33, zoT33, byT33, szT35, agT35, flT35, zoT35, byT35, szT92, agT92, flT92, zoT92, byT92, szT94, agT94, flT94, zoT94, byT94, fdT33_0, fdT33_1, fdT33_2, fdT33_3, fdT35_0, fdT35_1, fdT35_2, fdT94_0, fdT94_1, fdT94_2, idf_Wd', idf_numS, cells_numS, numS_fold, idf_numI, cells_numI, numI_fold, Pt.av, Pt.cells, wdI]; rfl) fun fs6 hfs6 => ?_
  replace hfs6 : fs6.length = 1 := hfs6.trans rfl
  simp only [List.drop_succ_cons, List.drop_zero]
  refine DQ.runF (m := 10) (by simp only [List.length_append, List.length_cons, List.length_nil, hfs3, hfs4, hfs5, hfs6]; omega) _ _ _ (by kernel_rfl) rfl (by simp (disch := first | omega | (simp only [List.length_append, List.length_cons, List.length_nil, List.length_set, List.length_replicate, Int.toNat_natCast]; omega)) [runDf.eq_def, runF1, runF2, stepF.eq_def, updo.eq_def, hupo.eq_def, opSto1.eq_def, szT31, agT31, unT31, zoT31, byT31, szT33, agT33, flT33, zoT33, byT33, szT35, agT35, flT35, zoT35, byT35, szT92, agT92, flT92, zoT92, byT92, szT94, agT94, flT94, zoT94, byT94, fdT33_0, fdT33_1, fdT33_2, fdT33_3, fdT35_0, fdT35_1, fdT35_2, fdT94_0, fdT94_1, fdT94_2, idf_Wd', idf_numS, cells_numS, numS_fold, idf_numI, cells_numI, numI_fold, Pt.av, Pt.cells, wdI]; rfl) ?_
  refine hK2 _ ?_
  refine AWP.ret ?_
  exact hK _ _ _ _ trivial ((Fin.mk (by simp [aRes, aResL, aRes1, szT94, agT94, idf_Wd', idf_numS, cells_numS, numS_fold, idf_numI, cells_numI, numI_fold, Pt.av, Pt.cells, wdI]; rfl)).cast (by rfl))

set_option maxHeartbeats 1000000 in
theorem spot_fc (p : Pt) (hp : p.ok) : FC Try.prog 103 [p.av] (spA p.x.v p.y.v p.w.v) := by
  
  refine FC.body Try.func103 rfl (by simp [idfL, idf, idfLL_iff, idf_Wd', idf_numS, cells_numS, numS_fold, idf_numI, cells_numI, numI_fold, Pt.av, Pt.cells, wdI]) (by simp [idfL, idf, spA, spC, idf_Wd']) 13 rfl fun nx K hK => ?_
  refine AWP.seqk fun K1 hK1 => ?_
  refine AWP.region (AOPS.all (by simp (disch := first | omega | (simp only [List.length_append, List.length_cons, List.length_nil, List.length_set, List.length_replicate, Int.toNat_natCast]; omega)) [szT33, agT33, flT33, zoT33, byT33, szT35, agT35, flT35, zoT35, byT35, szT99, agT99, flT99, zoT99, byT99, szT150, agT150, flT150, zoT150, byT150, fdT35_0, fdT35_1, fdT35_2, fdT150_0, fdT150_1, fdT150_2, idf_Wd', idf_numS, cells_numS, numS_fold, idf_numI, cells_numI, numI_fold, Pt.av, Pt.cells, wdI]; rfl) ?_)
  refine hK1 _ ?_
  refine AWP.seqk fun K2 hK2 => ?_
  refine AWP.draw 10 Try.checked.mixed (by kernel_rfl) (by simp) ?_
  simp only [List.take_succ_cons, List.take_zero, List.drop_succ_cons, List.drop_zero]
  refine DP.runFk 2 (by simp (disch := first | omega | (simp only [List.length_append, List.length_cons, List.length_nil, List.length_set, List.length_replicate, Int.toNat_natCast]; omega)) [runDf.eq_def, runF1, runF2, stepF.eq_def, updo.eq_def, hupo.eq_def, opSto1.eq_def, List.take_succ_cons, List.take_zero, szT31, agT31, unT31, zoT31, byT31, szT33, agT33, flT33, zoT33, byT33, szT35, agT35, flT35, zoT35, byT35, szT99, agT99, flT99, zoT99, byT99, szT150, agT150, flT150, zoT150, byT150, fdT33_0, fdT33_1, fdT33_2, fdT33_3, fdT35_0, fdT35_1, fdT35_2, fdT150_0, fdT150_1, fdT150_2, idf_Wd', idf_numS, cells_numS, numS_fold, idf_numI, cells_numI, numI_fold, Pt.av, Pt.cells, wdI]; rfl) fun fs3 hfs3 => ?_
  replace hfs3 : fs3.length = 2 := hfs3.trans rfl
  simp only [List.drop_succ_cons, List.drop_zero]
  refine DP.fcall (wideNum_fc p.x.a p.x.b p.x.c p.x.d hp.1.1 hp.1.2.1 hp.1.2.2.1 hp.1.2.2.2) rfl rfl rfl hb59 (by simp (disch := first | omega | (simp only [List.length_append, List.length_cons, List.length_nil, List.length_set, List.length_replicate, Int.toNat_natCast]; omega)) [idf_Wd', idf_Wd', idf_numS, cells_numS, numS_fold, idf_numI, cells_numI, numI_fold, Pt.av, Pt.cells, wdI]) (by simp (disch := first | omega | (simp only [List.length_append, List.length_cons, List.length_nil, List.length_set, List.length_replicate, Int.toNat_natCast]; omega))) (by simp) ?_
  simp only [updo]
  refine DP.runFk 2 (by simp (disch := first | omega | (simp only [List.length_append, List.length_cons, List.length_nil, List.length_set, List.length_replicate, Int.toNat_natCast]; omega)) [runDf.eq_def, runF1, runF2, stepF.eq_def, updo.eq_def, hupo.eq_def, opSto1.eq_def, List.take_succ_cons, List.take_zero, szT31, agT31, unT31, zoT31, byT31, szT33, agT33, flT33, zoT33, byT33, szT35, agT35, flT35, zoT35, byT35, szT99, agT99, flT99, zoT99, byT99, szT150, agT150, flT150, zoT150, byT150, fdT33_0, fdT33_1, fdT33_2, fdT33_3, fdT35_0, fdT35_1, fdT35_2, fdT150_0, fdT150_1, fdT150_2, idf_Wd', idf_numS, cells_numS, numS_fold, idf_numI, cells_numI, numI_fold, Pt.av, Pt.cells, wdI]; rfl) fun fs4 hfs4 => ?_
  replace hfs4 : fs4.length = 2 := hfs4.trans rfl
  simp only [List.drop_succ_cons, List.drop_zero]
  refine DP.fcall (wideNum_fc p.y.a p.y.b p.y.c p.y.d hp.2.1.1 hp.2.1.2.1 hp.2.1.2.2.1 hp.2.1.2.2.2) rfl rfl rfl hb59 (by simp (disch := first | omega | (simp only [List.length_append, List.length_cons, List.length_nil, List.length_set, List.length_replicate, Int.toNat_natCast]; omega)) [idf_Wd', idf_Wd', idf_numS, cells_numS, numS_fold, idf_numI, cells_numI, numI_fold, Pt.av, Pt.cells, wdI]) (by simp (disch := first | omega | (simp only [List.length_append, List.length_cons, List.length_nil, List.length_set, List.length_replicate, Int.toNat_natCast]; omega))) (by simp) ?_
  simp only [updo]
  refine DP.runFk 2 (by simp (disch := first | omega | (simp only [List.length_append, List.length_cons, List.length_nil, List.length_set, List.length_replicate, Int.toNat_natCast]; omega)) [runDf.eq_def, runF1, runF2, stepF.eq_def, updo.eq_def, hupo.eq_def, opSto1.eq_def, List.take_succ_cons, List.take_zero, szT31, agT31, unT31, zoT31, byT31, szT33, agT33, flT33, zoT33, byT33, szT35, agT35, flT35, zoT35, byT35, szT99, agT99, flT99, zoT99, byT99, szT150, agT150, flT150, zoT150, byT150, fdT33_0, fdT33_1, fdT33_2, fdT33_3, fdT35_0, fdT35_1, fdT35_2, fdT150_0, fdT150_1, fdT150_2, idf_Wd', idf_numS, cells_numS, numS_fold, idf_numI, cells_numI, numI_fold, Pt.av, Pt.cells, wdI]; rfl) fun fs5 hfs5 => ?_
  replace hfs5 : fs5.length = 2 := hfs5.trans rfl
  simp only [List.drop_succ_cons, List.drop_zero]
  refine DP.fcall (wideNum_fc p.w.a p.w.b p.w.c p.w.d hp.2.2.1 hp.2.2.2.1 hp.2.2.2.2.1 hp.2.2.2.2.2) rfl rfl rfl hb59 (by simp (disch := first | omega | (simp only [List.length_append, List.length_cons, List.length_nil, List.length_set, List.length_replicate, Int.toNat_natCast]; omega)) [idf_Wd', idf_Wd', idf_numS, cells_numS, numS_fold, idf_numI, cells_numI, numI_fold, Pt.av, Pt.cells, wdI]) (by simp (disch := first | omega | (simp only [List.length_append, List.length_cons, List.length_nil, List.length_set, List.length_replicate, Int.toNat_natCast]; omega))) (by simp) ?_
  simp only [updo]
  refine DP.runFk 1 (by simp (disch := first | omega | (simp only [List.length_append, List.length_cons, List.length_nil, List.length_set, List.length_replicate, Int.toNat_natCast]; omega)) [runDf.eq_def, runF1, runF2, stepF.eq_def, updo.eq_def, hupo.eq_def, opSto1.eq_def, List.take_succ_cons, List.take_zero, szT31, agT31, unT31, zoT31, byT31, szT33, agT33, flT33, zoT33, byT33, szT35, agT35, flT35, zoT35, byT35, szT99, agT99, flT99, zoT99, byT99, szT150, agT150, flT150, zoT150, byT150, fdT33_0, fdT33_1, fdT33_2, fdT33_3, fdT35_0, fdT35_1, fdT35_2, fdT150_0, fdT150_1, fdT150_2, idf_Wd', idf_numS, cells_numS, numS_fold, idf_numI, cells_numI, numI_fold, Pt.av, Pt.cells, wdI]; rfl) fun fs6 hfs6 => ?_
  replace hfs6 : fs6.length = 1 := hfs6.trans rfl
  simp only [List.drop_succ_cons, List.drop_zero]
  refine DQ.runF (m := 10) (by simp only [List.length_append, List.length_cons, List.length_nil, hfs3, hfs4, hfs5, hfs6]; omega) _ _ _ (by kernel_rfl) rfl (by simp (disch := first | omega | (simp only [List.length_append, List.length_cons, List.length_nil, List.length_set, List.length_replicate, Int.toNat_natCast]; omega)) [runDf.eq_def, runF1, runF2, stepF.eq_def, updo.eq_def, hupo.eq_def, opSto1.eq_def, szT31, agT31, unT31, zoT31, byT31, szT33, agT33, flT33, zoT33, byT33, szT35, agT35, flT35, zoT35, byT35, szT99, agT99, flT99, zoT99, byT99, szT150, agT150, flT150, zoT150, byT150, fdT33_0, fdT33_1, fdT33_2, fdT33_3, fdT35_0, fdT35_1, fdT35_2, fdT150_0, fdT150_1, fdT150_2, idf_Wd', idf_numS, cells_numS, numS_fold, idf_numI, cells_numI, numI_fold, Pt.av, Pt.cells, wdI]; rfl) ?_
  refine hK2 _ ?_
  refine AWP.ret ?_
  exact hK _ _ _ _ trivial ((Fin.mk (by simp [aRes, aResL, aRes1, szT150, agT150, idf_Wd', idf_numS, cells_numS, numS_fold, idf_numI, cells_numI, numI_fold, Pt.av, Pt.cells, wdI]; rfl)).cast (by rfl))

set_option maxHeartbeats 1000000 in
theorem l3Small_fc {k : Nat} {x y w : Int} (bx : Bg k x) (bY : Bg k y) (bw : Bg k w) (hk : k ≤ 68719476736) : FC Try.prog 86 [l3A x y w] (.bool (sm x y w)) := by
  refine FC.body Try.func86 rfl (by simp [idfL, idf, idfLL_iff, idf_Wd', idf_numS, cells_numS, numS_fold, idf_numI, cells_numI, numI_fold, l3A, l3C]) (by simp [idfL, idf, idfLL_iff, idf_Wd', idf_numS, cells_numS, numS_fold, idf_numI, cells_numI, numI_fold, l3A, l3C]) 22 rfl fun nx K hK => ?_
  refine AWP.seqk fun K1 hK1 => ?_
  refine AWP.region (AOPS.all (by simp (disch := first | omega | (simp only [List.length_append, List.length_cons, List.length_nil, List.length_set, List.length_replicate, Int.toNat_natCast]; omega)) [szT92, agT92, flT92, zoT92, byT92, szT94, agT94, flT94, zoT94, byT94, fdT94_0, fdT94_1, fdT94_2, idf_Wd', idf_numS, cells_numS, numS_fold, idf_numI, cells_numI, numI_fold, l3A, l3C]; rfl) ?_)
  refine hK1 _ ?_
  refine AWP.seqk fun K2 hK2 => ?_
  by_cases hx : bitLen x.natAbs ≤ 80
  · have c1 : decide ((bitLen x.natAbs : Int) ≤ 80) = true := by simp; omega
    by_cases hy : bitLen y.natAbs ≤ 80
    · have c2 : decide ((bitLen y.natAbs : Int) ≤ 80) = true := by simp; omega
      refine AWP.region ?_
      refine AOPS.runk 3 (by simp (disch := first | omega | (simp only [List.length_append, List.length_cons, List.length_nil, List.length_set, List.length_replicate, Int.toNat_natCast]; omega)) [List.take_succ_cons, List.take_zero, szT2, agT2, unT2, zoT2, byT2, szT4, agT4, unT4, zoT4, byT4, szT90, agT90, elT90, unT90, zoT90, byT90, szT92, agT92, flT92, zoT92, byT92, szT94, agT94, flT94, zoT94, byT94, szT180, agT180, unT180, zoT180, byT180, fdT92_0, fdT92_1, fdT94_0, fdT94_1, fdT94_2, idf_Wd', idf_numS, cells_numS, numS_fold, idf_numI, cells_numI, numI_fold, l3A, l3C, c1, c2]; rfl) ?_
      simp only [List.drop_succ_cons, List.drop_zero]
      refine AOPS.fcall (l1Bits_fc bx hk) rfl rfl rfl hb136 (by simp (disch := first | omega | (simp only [List.length_append, List.length_cons, List.length_nil, List.length_set, List.length_replicate, Int.toNat_natCast]; omega)) [idf_Wd', c1, c2, idf_Wd', idf_numS, cells_numS, numS_fold, idf_numI, cells_numI, numI_fold, l3A, l3C]) (by simp (disch := first | omega | (simp only [List.length_append, List.length_cons, List.length_nil, List.length_set, List.length_replicate, Int.toNat_natCast]; omega)) [c1, c2]) (by simp) ?_
      simp only [puts_some, updo]
      refine AOPS.runk 5 (by simp (disch := first | omega | (simp only [List.length_append, List.length_cons, List.length_nil, List.length_set, List.length_replicate, Int.toNat_natCast]; omega)) [List.take_succ_cons, List.take_zero, szT2, agT2, unT2, zoT2, byT2, szT4, agT4, unT4, zoT4, byT4, szT90, agT90, elT90, unT90, zoT90, byT90, szT92, agT92, flT92, zoT92, byT92, szT94, agT94, flT94, zoT94, byT94, szT180, agT180, unT180, zoT180, byT180, fdT92_0, fdT92_1, fdT94_0, fdT94_1, fdT94_2, idf_Wd', idf_numS, cells_numS, numS_fold, idf_numI, cells_numI, numI_fold, l3A, l3C, c1, c2]; rfl) ?_
      simp only [List.drop_succ_cons, List.drop_zero]
      refine AOPS.fcall (l1Bits_fc bY hk) rfl rfl rfl hb136 (by simp (disch := first | omega | (simp only [List.length_append, List.length_cons, List.length_nil, List.length_set, List.length_replicate, Int.toNat_natCast]; omega)) [idf_Wd', c1, c2, idf_Wd', idf_numS, cells_numS, numS_fold, idf_numI, cells_numI, numI_fold, l3A, l3C]) (by simp (disch := first | omega | (simp only [List.length_append, List.length_cons, List.length_nil, List.length_set, List.length_replicate, Int.toNat_natCast]; omega)) [c1, c2]) (by simp) ?_
      simp only [puts_some, updo]
      refine AOPS.runk 6 (by simp (disch := first | omega | (simp only [List.length_append, List.length_cons, List.length_nil, List.length_set, List.length_replicate, Int.toNat_natCast]; omega)) [List.take_succ_cons, List.take_zero, szT2, agT2, unT2, zoT2, byT2, szT4, agT4, unT4, zoT4, byT4, szT90, agT90, elT90, unT90, zoT90, byT90, szT92, agT92, flT92, zoT92, byT92, szT94, agT94, flT94, zoT94, byT94, szT180, agT180, unT180, zoT180, byT180, fdT92_0, fdT92_1, fdT94_0, fdT94_1, fdT94_2, idf_Wd', idf_numS, cells_numS, numS_fold, idf_numI, cells_numI, numI_fold, l3A, l3C, c1, c2]; rfl) ?_
      simp only [List.drop_succ_cons, List.drop_zero]
      refine AOPS.fcall (l1Bits_fc bw hk) rfl rfl rfl hb136 (by simp (disch := first | omega | (simp only [List.length_append, List.length_cons, List.length_nil, List.length_set, List.length_replicate, Int.toNat_natCast]; omega)) [idf_Wd', c1, c2, idf_Wd', idf_numS, cells_numS, numS_fold, idf_numI, cells_numI, numI_fold, l3A, l3C]) (by simp (disch := first | omega | (simp only [List.length_append, List.length_cons, List.length_nil, List.length_set, List.length_replicate, Int.toNat_natCast]; omega)) [c1, c2]) (by simp) ?_
      simp only [puts_some, updo]
      refine AOPS.all (by simp (disch := first | omega | (simp only [List.length_append, List.length_cons, List.length_nil, List.length_set, List.length_replicate, Int.toNat_natCast]; omega)) [szT2, agT2, unT2, zoT2, byT2, szT4, agT4, unT4, zoT4, byT4, szT90, agT90, elT90, unT90, zoT90, byT90, szT92, agT92, flT92, zoT92, byT92, szT94, agT94, flT94, zoT94, byT94, szT180, agT180, unT180, zoT180, byT180, fdT92_0, fdT92_1, fdT94_0, fdT94_1, fdT94_2, idf_Wd', idf_numS, cells_numS, numS_fold, idf_numI, cells_numI, numI_fold, l3A, l3C, c1, c2]; rfl) ?_
      refine hK2 _ ?_
      refine AWP.ret ?_
      exact hK _ _ _ _ trivial ((Fin.mk (by simp [aRes, aResL, aRes1, idf_Wd', idf_numS, cells_numS, numS_fold, idf_numI, cells_numI, numI_fold, l3A, l3C]; rfl)).cast (by simp [sm, hx, hy]; try omega))
    · have c2 : decide ((bitLen y.natAbs : Int) ≤ 80) = false := by simp; omega
      refine AWP.region ?_
      refine AOPS.runk 3 (by simp (disch := first | omega | (simp only [List.length_append, List.length_cons, List.length_nil, List.length_set, List.length_replicate, Int.toNat_natCast]; omega)) [List.take_succ_cons, List.take_zero, szT2, agT2, unT2, zoT2, byT2, szT4, agT4, unT4, zoT4, byT4, szT90, agT90, elT90, unT90, zoT90, byT90, szT92, agT92, flT92, zoT92, byT92, szT94, agT94, flT94, zoT94, byT94, szT180, agT180, unT180, zoT180, byT180, fdT92_0, fdT92_1, fdT94_0, fdT94_1, fdT94_2, idf_Wd', idf_numS, cells_numS, numS_fold, idf_numI, cells_numI, numI_fold, l3A, l3C, c1, c2]; rfl) ?_
      simp only [List.drop_succ_cons, List.drop_zero]
      refine AOPS.fcall (l1Bits_fc bx hk) rfl rfl rfl hb136 (by simp (disch := first | omega | (simp only [List.length_append, List.length_cons, List.length_nil, List.length_set, List.length_replicate, Int.toNat_natCast]; omega)) [idf_Wd', c1, c2, idf_Wd', idf_numS, cells_numS, numS_fold, idf_numI, cells_numI, numI_fold, l3A, l3C]) (by simp (disch := first | omega | (simp only [List.length_append, List.length_cons, List.length_nil, List.length_set, List.length_replicate, Int.toNat_natCast]; omega)) [c1, c2]) (by simp) ?_
      simp only [puts_some, updo]
      refine AOPS.runk 5 (by simp (disch := first | omega | (simp only [List.length_append, List.length_cons, List.length_nil, List.length_set, List.length_replicate, Int.toNat_natCast]; omega)) [List.take_succ_cons, List.take_zero, szT2, agT2, unT2, zoT2, byT2, szT4, agT4, unT4, zoT4, byT4, szT90, agT90, elT90, unT90, zoT90, byT90, szT92, agT92, flT92, zoT92, byT92, szT94, agT94, flT94, zoT94, byT94, szT180, agT180, unT180, zoT180, byT180, fdT92_0, fdT92_1, fdT94_0, fdT94_1, fdT94_2, idf_Wd', idf_numS, cells_numS, numS_fold, idf_numI, cells_numI, numI_fold, l3A, l3C, c1, c2]; rfl) ?_
      simp only [List.drop_succ_cons, List.drop_zero]
      refine AOPS.fcall (l1Bits_fc bY hk) rfl rfl rfl hb136 (by simp (disch := first | omega | (simp only [List.length_append, List.length_cons, List.length_nil, List.length_set, List.length_replicate, Int.toNat_natCast]; omega)) [idf_Wd', c1, c2, idf_Wd', idf_numS, cells_numS, numS_fold, idf_numI, cells_numI, numI_fold, l3A, l3C]) (by simp (disch := first | omega | (simp only [List.length_append, List.length_cons, List.length_nil, List.length_set, List.length_replicate, Int.toNat_natCast]; omega)) [c1, c2]) (by simp) ?_
      simp only [puts_some, updo]
      refine AOPS.all (by simp (disch := first | omega | (simp only [List.length_append, List.length_cons, List.length_nil, List.length_set, List.length_replicate, Int.toNat_natCast]; omega)) [szT2, agT2, unT2, zoT2, byT2, szT4, agT4, unT4, zoT4, byT4, szT90, agT90, elT90, unT90, zoT90, byT90, szT92, agT92, flT92, zoT92, byT92, szT94, agT94, flT94, zoT94, byT94, szT180, agT180, unT180, zoT180, byT180, fdT92_0, fdT92_1, fdT94_0, fdT94_1, fdT94_2, idf_Wd', idf_numS, cells_numS, numS_fold, idf_numI, cells_numI, numI_fold, l3A, l3C, c1, c2]; rfl) ?_
      refine hK2 _ ?_
      refine AWP.ret ?_
      exact hK _ _ _ _ trivial ((Fin.mk (by simp [aRes, aResL, aRes1, idf_Wd', idf_numS, cells_numS, numS_fold, idf_numI, cells_numI, numI_fold, l3A, l3C]; rfl)).cast (by simp [sm, hx, hy]))
  · have c1 : decide ((bitLen x.natAbs : Int) ≤ 80) = false := by simp; omega
    refine AWP.region ?_
    refine AOPS.runk 3 (by simp (disch := first | omega | (simp only [List.length_append, List.length_cons, List.length_nil, List.length_set, List.length_replicate, Int.toNat_natCast]; omega)) [List.take_succ_cons, List.take_zero, szT2, agT2, unT2, zoT2, byT2, szT4, agT4, unT4, zoT4, byT4, szT90, agT90, elT90, unT90, zoT90, byT90, szT92, agT92, flT92, zoT92, byT92, szT94, agT94, flT94, zoT94, byT94, szT180, agT180, unT180, zoT180, byT180, fdT92_0, fdT92_1, fdT94_0, fdT94_1, fdT94_2, idf_Wd', idf_numS, cells_numS, numS_fold, idf_numI, cells_numI, numI_fold, l3A, l3C, c1]; rfl) ?_
    simp only [List.drop_succ_cons, List.drop_zero]
    refine AOPS.fcall (l1Bits_fc bx hk) rfl rfl rfl hb136 (by simp (disch := first | omega | (simp only [List.length_append, List.length_cons, List.length_nil, List.length_set, List.length_replicate, Int.toNat_natCast]; omega)) [idf_Wd', c1, idf_Wd', idf_numS, cells_numS, numS_fold, idf_numI, cells_numI, numI_fold, l3A, l3C]) (by simp (disch := first | omega | (simp only [List.length_append, List.length_cons, List.length_nil, List.length_set, List.length_replicate, Int.toNat_natCast]; omega)) [c1]) (by simp) ?_
    simp only [puts_some, updo]
    refine AOPS.all (by simp (disch := first | omega | (simp only [List.length_append, List.length_cons, List.length_nil, List.length_set, List.length_replicate, Int.toNat_natCast]; omega)) [szT2, agT2, unT2, zoT2, byT2, szT4, agT4, unT4, zoT4, byT4, szT90, agT90, elT90, unT90, zoT90, byT90, szT92, agT92, flT92, zoT92, byT92, szT94, agT94, flT94, zoT94, byT94, szT180, agT180, unT180, zoT180, byT180, fdT92_0, fdT92_1, fdT94_0, fdT94_1, fdT94_2, idf_Wd', idf_numS, cells_numS, numS_fold, idf_numI, cells_numI, numI_fold, l3A, l3C, c1]; rfl) ?_
    refine hK2 _ ?_
    refine AWP.ret ?_
    exact hK _ _ _ _ trivial ((Fin.mk (by simp [aRes, aResL, aRes1, idf_Wd', idf_numS, cells_numS, numS_fold, idf_numI, cells_numI, numI_fold, l3A, l3C]; rfl)).cast (by simp [sm, hx]))

end Go.Proofs.Ytdcggmbnjonemaa

/- Walks: are points right? (both). -/
namespace Go.Proofs.Ytdcggmbnjonemaa
open Go Go.RowKit
set_option linter.unusedSimpArgs false
set_option linter.unusedVariables false
set_option maxRecDepth 100000
attribute [local simp] List.getElem?_cons_zero List.getElem?_cons_succ List.getElem?_toArray runOps stepOp.eq_def agd.eq_def dstOk.eq_def opVal.eq_def opNew.eq_def opSto.eq_def ev.eq_def cv.eq_def puts_some puts_none upd_ap lst.eq_def aBin.eq_def aUn.eq_def aBi_str aBi_isl aBi_osl aBi_nsl aBi_max aBi_min aBi_max3 aConv.eq_def aLd.eq_def aLoad.eq_def aField.eq_def aFld.eq_def aIdx_isl aIdx_osl aSlc_isl aSlc_osl aSlc_str aSlc_nsl bnd.eq_def evs_nil evs_cons aBuild.eq_def aFill splice.eq_def cells_agg cells_int cells_bool cells_str cells_nil cells_nsl cells_isl cells_osl cells_ptr cells_ip cells_fn cells_Wd one_int one_bool one_str one_nil one_nsl one_isl one_osl one_ptr one_ip one_fn one_Wd aSets hupd_eq hupd_ne wrap_i64s wrap_u64s wrap_u32s wrap_u8s wd_getD wd_set wd_len wd_replicate wd_one wd_fold fz_osl hupd_same aSix.eq_def aEqS.eq_def aEqB_bool aEqB_nsl aEqB_nil

set_option maxHeartbeats 2000000 in
theorem pointOkS_fc (p : Pt) (hp : p.ok) : FC Try.prog 40 [p.av] (.bool p.good) := by
  have bX := W4.bg hp.1
  have bY := W4.bg hp.2.1
  have bW := W4.bg hp.2.2
  obtain ⟨X, hX⟩ : ∃ X, p.x.v = X := ⟨_, rfl⟩
  obtain ⟨Y, hY⟩ : ∃ Y, p.y.v = Y := ⟨_, rfl⟩
  obtain ⟨W, hW⟩ : ∃ W, p.w.v = W := ⟨_, rfl⟩
  have hg : p.good = (decide (0 < W) && sm X Y W && decide (Nat.gcd (Int.gcd X Y) W.natAbs = 1)) := by unfold Pt.good; rw [hX, hY, hW]
  rw [hX] at bX
  rw [hY] at bY
  rw [hW] at bW
  have hs1 : 0 < W → FC Try.prog 85 [numS W] (.int .i64 1) := fun h => by
    have h1 := l1Sign_fc W
    rw [if_neg (by omega), if_pos h] at h1; exact h1
  have hs0 : ¬ 0 < W → ∃ c : Int, FC Try.prog 85 [numS W] (.int .i64 c) ∧ c ≤ 0 := fun h => ⟨_, l1Sign_fc W, by split <;> (try split) <;> omega⟩
  have bG1 : Bg 4 ((Int.gcd X Y : Nat) : Int) := Bg.gcd bX.abs bY.abs
  have bG : Bg 4 ((Nat.gcd (Int.gcd X Y) W.natAbs : Nat) : Int) := Bg.gcd bG1 bW.abs
  obtain ⟨cc, hcf, hce⟩ : ∃ c : Int, FC Try.prog 87 [numS ((Nat.gcd (Int.gcd X Y) W.natAbs : Nat) : Int), numS 1] (.int .i64 c) ∧ (c == 0) = decide (Nat.gcd (Int.gcd X Y) W.natAbs = 1) := ⟨_, l1Cmp_fc bG (Bg.i64 (n := 1) (by omega) (by omega)) (by omega) (by omega), by rw [one_cmp]; congr 1; apply propext; omega⟩
  have hl3 := l3Of_fc p hp
  rw [hX, hY, hW] at hl3
  have hg2 : FC Try.prog 88 [numS ((Int.gcd X Y : Nat) : Int), numS W] (numS ((Nat.gcd (Int.gcd X Y) W.natAbs : Nat) : Int)) := by
    have h := l1Gcd_fc ((Int.gcd X Y : Nat) : Int) W bG1 bW (by omega)
    have e : Int.gcd ((Int.gcd X Y : Nat) : Int) W = Nat.gcd (Int.gcd X Y) W.natAbs := by simp [Int.gcd]
    rw [e] at h; exact h
  refine FC.body Try.func40 rfl (by simp [idfL, idf, idfLL_iff, idf_Wd', idf_numS, cells_numS, numS_fold, idf_numI, cells_numI, numI_fold, Pt.av, Pt.cells, l3A, l3C]) (by simp [idfL, idf, idfLL_iff, idf_Wd', idf_numS, cells_numS, numS_fold, idf_numI, cells_numI, numI_fold, Pt.av, Pt.cells, l3A, l3C]) 27 rfl fun nx K hK => ?_
  refine AWP.seqk fun K1 hK1 => ?_
  refine AWP.region (AOPS.all (by simp (disch := first | omega | (simp only [List.length_append, List.length_cons, List.length_nil, List.length_set, List.length_replicate, Int.toNat_natCast]; omega)) [szT33, agT33, flT33, zoT33, byT33, szT35, agT35, flT35, zoT35, byT35, fdT35_0, fdT35_1, fdT35_2, idf_Wd', idf_numS, cells_numS, numS_fold, idf_numI, cells_numI, numI_fold, Pt.av, Pt.cells, l3A, l3C]; rfl) ?_)
  refine hK1 _ ?_
  refine AWP.seqk fun K2 hK2 => ?_
  refine AWP.region ?_
  refine AOPS.runk 1 (by simp (disch := first | omega | (simp only [List.length_append, List.length_cons, List.length_nil, List.length_set, List.length_replicate, Int.toNat_natCast]; omega)) [List.take_succ_cons, List.take_zero, szT33, agT33, flT33, zoT33, byT33, szT35, agT35, flT35, zoT35, byT35, szT92, agT92, flT92, zoT92, byT92, szT94, agT94, flT94, zoT94, byT94, fdT35_0, fdT35_1, fdT35_2, fdT94_0, fdT94_1, fdT94_2, idf_Wd', idf_numS, cells_numS, numS_fold, idf_numI, cells_numI, numI_fold, Pt.av, Pt.cells, l3A, l3C]; rfl) ?_
  simp only [List.drop_succ_cons, List.drop_zero]
  refine AOPS.fcall (hl3) rfl rfl rfl hb50 (by simp (disch := first | omega | (simp only [List.length_append, List.length_cons, List.length_nil, List.length_set, List.length_replicate, Int.toNat_natCast]; omega)) [idf_Wd', idf_Wd', idf_numS, cells_numS, numS_fold, idf_numI, cells_numI, numI_fold, Pt.av, Pt.cells, l3A, l3C]) (by simp (disch := first | omega | (simp only [List.length_append, List.length_cons, List.length_nil, List.length_set, List.length_replicate, Int.toNat_natCast]; omega))) (by simp) ?_
  simp only [puts_some, updo]
  refine AOPS.all (by simp (disch := first | omega | (simp only [List.length_append, List.length_cons, List.length_nil, List.length_set, List.length_replicate, Int.toNat_natCast]; omega)) [szT33, agT33, flT33, zoT33, byT33, szT35, agT35, flT35, zoT35, byT35, szT92, agT92, flT92, zoT92, byT92, szT94, agT94, flT94, zoT94, byT94, fdT35_0, fdT35_1, fdT35_2, fdT94_0, fdT94_1, fdT94_2, idf_Wd', idf_numS, cells_numS, numS_fold, idf_numI, cells_numI, numI_fold, Pt.av, Pt.cells, l3A, l3C]; rfl) ?_
  refine hK2 _ ?_
  refine AWP.seqk fun K3 hK3 => ?_
  by_cases hw : 0 < W
  · cases hsm : sm X Y W
    · refine AWP.draw 21 Try.checked.mixed (by kernel_rfl) (by simp) ?_
      simp only [List.take_succ_cons, List.take_zero, List.drop_succ_cons, List.drop_zero]
      refine DP.runFk 2 (by simp (disch := first | omega | (simp only [List.length_append, List.length_cons, List.length_nil, List.length_set, List.length_replicate, Int.toNat_natCast]; omega)) [runDf.eq_def, runF1, runF2, stepF.eq_def, updo.eq_def, hupo.eq_def, opSto1.eq_def, List.take_succ_cons, List.take_zero, szT2, agT2, unT2, zoT2, byT2, szT4, agT4, unT4, zoT4, byT4, szT90, agT90, elT90, unT90, zoT90, byT90, szT92, agT92, flT92, zoT92, byT92, szT94, agT94, flT94, zoT94, byT94, fdT92_0, fdT92_1, fdT94_0, fdT94_1, fdT94_2, idf_Wd', idf_numS, cells_numS, numS_fold, idf_numI, cells_numI, numI_fold, Pt.av, Pt.cells, l3A, l3C, hsm]; rfl) fun fs4 hfs4 => ?_
      replace hfs4 : fs4.length = 2 := hfs4.trans rfl
      simp only [List.drop_succ_cons, List.drop_zero]
      refine DP.fcall (hs1 hw) rfl rfl rfl hb85 (by simp (disch := first | omega | (simp only [List.length_append, List.length_cons, List.length_nil, List.length_set, List.length_replicate, Int.toNat_natCast]; omega)) [idf_Wd', hsm, idf_Wd', idf_numS, cells_numS, numS_fold, idf_numI, cells_numI, numI_fold, Pt.av, Pt.cells, l3A, l3C]) (by simp (disch := first | omega | (simp only [List.length_append, List.length_cons, List.length_nil, List.length_set, List.length_replicate, Int.toNat_natCast]; omega)) [hsm]) (by simp) ?_
      simp only [updo]
      refine DP.runFk 3 (by simp (disch := first | omega | (simp only [List.length_append, List.length_cons, List.length_nil, List.length_set, List.length_replicate, Int.toNat_natCast]; omega)) [runDf.eq_def, runF1, runF2, stepF.eq_def, updo.eq_def, hupo.eq_def, opSto1.eq_def, List.take_succ_cons, List.take_zero, szT2, agT2, unT2, zoT2, byT2, szT4, agT4, unT4, zoT4, byT4, szT90, agT90, elT90, unT90, zoT90, byT90, szT92, agT92, flT92, zoT92, byT92, szT94, agT94, flT94, zoT94, byT94, fdT92_0, fdT92_1, fdT94_0, fdT94_1, fdT94_2, idf_Wd', idf_numS, cells_numS, numS_fold, idf_numI, cells_numI, numI_fold, Pt.av, Pt.cells, l3A, l3C, hsm]; rfl) fun fs5 hfs5 => ?_
      replace hfs5 : fs5.length = 3 := hfs5.trans rfl
      simp only [List.drop_succ_cons, List.drop_zero]
      refine DP.fcall (l3Small_fc bX bY bW (by omega)) rfl rfl rfl hb86 (by simp (disch := first | omega | (simp only [List.length_append, List.length_cons, List.length_nil, List.length_set, List.length_replicate, Int.toNat_natCast]; omega)) [idf_Wd', hsm, idf_Wd', idf_numS, cells_numS, numS_fold, idf_numI, cells_numI, numI_fold, Pt.av, Pt.cells, l3A, l3C]) (by simp (disch := first | omega | (simp only [List.length_append, List.length_cons, List.length_nil, List.length_set, List.length_replicate, Int.toNat_natCast]; omega)) [hsm]) (by simp) ?_
      simp only [updo]
      refine DP.runFk 14 (by simp (disch := first | omega | (simp only [List.length_append, List.length_cons, List.length_nil, List.length_set, List.length_replicate, Int.toNat_natCast]; omega)) [runDf.eq_def, runF1, runF2, stepF.eq_def, updo.eq_def, hupo.eq_def, opSto1.eq_def, List.take_succ_cons, List.take_zero, szT2, agT2, unT2, zoT2, byT2, szT4, agT4, unT4, zoT4, byT4, szT90, agT90, elT90, unT90, zoT90, byT90, szT92, agT92, flT92, zoT92, byT92, szT94, agT94, flT94, zoT94, byT94, fdT92_0, fdT92_1, fdT94_0, fdT94_1, fdT94_2, idf_Wd', idf_numS, cells_numS, numS_fold, idf_numI, cells_numI, numI_fold, Pt.av, Pt.cells, l3A, l3C, hsm]; rfl) fun fs6 hfs6 => ?_
      replace hfs6 : fs6.length = 14 := hfs6.trans rfl
      simp only [List.drop_succ_cons, List.drop_zero]
      refine DQ.runF (m := 21) (by simp only [List.length_append, List.length_cons, List.length_nil, hfs4, hfs5, hfs6]; omega) _ _ _ (by kernel_rfl) rfl (by simp (disch := first | omega | (simp only [List.length_append, List.length_cons, List.length_nil, List.length_set, List.length_replicate, Int.toNat_natCast]; omega)) [runDf.eq_def, runF1, runF2, stepF.eq_def, updo.eq_def, hupo.eq_def, opSto1.eq_def, szT2, agT2, unT2, zoT2, byT2, szT4, agT4, unT4, zoT4, byT4, szT90, agT90, elT90, unT90, zoT90, byT90, szT92, agT92, flT92, zoT92, byT92, szT94, agT94, flT94, zoT94, byT94, fdT92_0, fdT92_1, fdT94_0, fdT94_1, fdT94_2, idf_Wd', idf_numS, cells_numS, numS_fold, idf_numI, cells_numI, numI_fold, Pt.av, Pt.cells, l3A, l3C, hsm]; rfl) ?_
      refine hK3 _ ?_
      refine AWP.ret ?_
      exact hK _ _ _ _ trivial ((Fin.mk (by simp [aRes, aResL, aRes1, idf_Wd', idf_numS, cells_numS, numS_fold, idf_numI, cells_numI, numI_fold, Pt.av, Pt.cells, l3A, l3C]; rfl)).cast (by rw [hg]; simp [hw, hsm]))
    · refine AWP.draw 21 Try.checked.mixed (by kernel_rfl) (by simp) ?_
      simp only [List.take_succ_cons, List.take_zero, List.drop_succ_cons, List.drop_zero]
      refine DP.runFk 2 (by simp (disch := first | omega | (simp only [List.length_append, List.length_cons, List.length_nil, List.length_set, List.length_replicate, Int.toNat_natCast]; omega)) [runDf.eq_def, runF1, runF2, stepF.eq_def, updo.eq_def, hupo.eq_def, opSto1.eq_def, List.take_succ_cons, List.take_zero, szT2, agT2, unT2, zoT2, byT2, szT4, agT4, unT4, zoT4, byT4, szT90, agT90, elT90, unT90, zoT90, byT90, szT92, agT92, flT92, zoT92, byT92, szT94, agT94, flT94, zoT94, byT94, fdT92_0, fdT92_1, fdT94_0, fdT94_1, fdT94_2, idf_Wd', idf_numS, cells_numS, numS_fold, idf_numI, cells_numI, numI_fold, Pt.av, Pt.cells, l3A, l3C, hsm]; rfl) fun fs7 hfs7 => ?_
      replace hfs7 : fs7.length = 2 := hfs7.trans rfl
      simp only [List.drop_succ_cons, List.drop_zero]
      refine DP.fcall (hs1 hw) rfl rfl rfl hb85 (by simp (disch := first | omega | (simp only [List.length_append, List.length_cons, List.length_nil, List.length_set, List.length_replicate, Int.toNat_natCast]; omega)) [idf_Wd', hsm, idf_Wd', idf_numS, cells_numS, numS_fold, idf_numI, cells_numI, numI_fold, Pt.av, Pt.cells, l3A, l3C]) (by simp (disch := first | omega | (simp only [List.length_append, List.length_cons, List.length_nil, List.length_set, List.length_replicate, Int.toNat_natCast]; omega)) [hsm]) (by simp) ?_
      simp only [updo]
      refine DP.runFk 3 (by simp (disch := first | omega | (simp only [List.length_append, List.length_cons, List.length_nil, List.length_set, List.length_replicate, Int.toNat_natCast]; omega)) [runDf.eq_def, runF1, runF2, stepF.eq_def, updo.eq_def, hupo.eq_def, opSto1.eq_def, List.take_succ_cons, List.take_zero, szT2, agT2, unT2, zoT2, byT2, szT4, agT4, unT4, zoT4, byT4, szT90, agT90, elT90, unT90, zoT90, byT90, szT92, agT92, flT92, zoT92, byT92, szT94, agT94, flT94, zoT94, byT94, fdT92_0, fdT92_1, fdT94_0, fdT94_1, fdT94_2, idf_Wd', idf_numS, cells_numS, numS_fold, idf_numI, cells_numI, numI_fold, Pt.av, Pt.cells, l3A, l3C, hsm]; rfl) fun fs8 hfs8 => ?_
      replace hfs8 : fs8.length = 3 := hfs8.trans rfl
      simp only [List.drop_succ_cons, List.drop_zero]
      refine DP.fcall (l3Small_fc bX bY bW (by omega)) rfl rfl rfl hb86 (by simp (disch := first | omega | (simp only [List.length_append, List.length_cons, List.length_nil, List.length_set, List.length_replicate, Int.toNat_natCast]; omega)) [idf_Wd', hsm, idf_Wd', idf_numS, cells_numS, numS_fold, idf_numI, cells_numI, numI_fold, Pt.av, Pt.cells, l3A, l3C]) (by simp (disch := first | omega | (simp only [List.length_append, List.length_cons, List.length_nil, List.length_set, List.length_replicate, Int.toNat_natCast]; omega)) [hsm]) (by simp) ?_
      simp only [updo]
      refine DP.runFk 6 (by simp (disch := first | omega | (simp only [List.length_append, List.length_cons, List.length_nil, List.length_set, List.length_replicate, Int.toNat_natCast]; omega)) [runDf.eq_def, runF1, runF2, stepF.eq_def, updo.eq_def, hupo.eq_def, opSto1.eq_def, List.take_succ_cons, List.take_zero, szT2, agT2, unT2, zoT2, byT2, szT4, agT4, unT4, zoT4, byT4, szT90, agT90, elT90, unT90, zoT90, byT90, szT92, agT92, flT92, zoT92, byT92, szT94, agT94, flT94, zoT94, byT94, fdT92_0, fdT92_1, fdT94_0, fdT94_1, fdT94_2, idf_Wd', idf_numS, cells_numS, numS_fold, idf_numI, cells_numI, numI_fold, Pt.av, Pt.cells, l3A, l3C, hsm]; rfl) fun fs9 hfs9 => ?_
      replace hfs9 : fs9.length = 6 := hfs9.trans rfl
      simp only [List.drop_succ_cons, List.drop_zero]
      refine DP.fcall (l1Gcd_fc X Y bX bY (by omega)) rfl rfl rfl hb88 (by simp (disch := first | omega | (simp only [List.length_append, List.length_cons, List.length_nil, List.length_set, List.length_replicate, Int.toNat_natCast]; omega)) [idf_Wd', hsm, idf_Wd', idf_numS, cells_numS, numS_fold, idf_numI, cells_numI, numI_fold, Pt.av, Pt.cells, l3A, l3C]) (by simp (disch := first | omega | (simp only [List.length_append, List.length_cons, List.length_nil, List.length_set, List.length_replicate, Int.toNat_natCast]; omega)) [hsm]) (by simp) ?_
      simp only [updo]
      refine DP.runFk 2 (by simp (disch := first | omega | (simp only [List.length_append, List.length_cons, List.length_nil, List.length_set, List.length_replicate, Int.toNat_natCast]; omega)) [runDf.eq_def, runF1, runF2, stepF.eq_def, updo.eq_def, hupo.eq_def, opSto1.eq_def, List.take_succ_cons, List.take_zero, szT2, agT2, unT2, zoT2, byT2, szT4, agT4, unT4, zoT4, byT4, szT90, agT90, elT90, unT90, zoT90, byT90, szT92, agT92, flT92, zoT92, byT92, szT94, agT94, flT94, zoT94, byT94, fdT92_0, fdT92_1, fdT94_0, fdT94_1, fdT94_2, idf_Wd', idf_numS, cells_numS, numS_fold, idf_numI, cells_numI, numI_fold, Pt.av, Pt.cells, l3A, l3C, hsm]; rfl) fun fs10 hfs10 => ?_
      replace hfs10 : fs10.length = 2 := hfs10.trans rfl
      simp only [List.drop_succ_cons, List.drop_zero]
      refine DP.fcall (hg2) rfl rfl rfl hb88 (by simp (disch := first | omega | (simp only [List.length_append, List.length_cons, List.length_nil, List.length_set, List.length_replicate, Int.toNat_natCast]; omega)) [idf_Wd', hsm, idf_Wd', idf_numS, cells_numS, numS_fold, idf_numI, cells_numI, numI_fold, Pt.av, Pt.cells, l3A, l3C]) (by simp (disch := first | omega | (simp only [List.length_append, List.length_cons, List.length_nil, List.length_set, List.length_replicate, Int.toNat_natCast]; omega)) [hsm]) (by simp) ?_
      simp only [updo]
      refine DP.fcall (l1Int_fc 1 (by omega) (by omega)) rfl rfl rfl hb89 (by simp (disch := first | omega | (simp only [List.length_append, List.length_cons, List.length_nil, List.length_set, List.length_replicate, Int.toNat_natCast]; omega)) [idf_Wd', hsm, idf_Wd', idf_numS, cells_numS, numS_fold, idf_numI, cells_numI, numI_fold, Pt.av, Pt.cells, l3A, l3C]) (by simp (disch := first | omega | (simp only [List.length_append, List.length_cons, List.length_nil, List.length_set, List.length_replicate, Int.toNat_natCast]; omega)) [hsm]) (by simp) ?_
      simp only [updo]
      refine DP.fcall (hcf) rfl rfl rfl hb87 (by simp (disch := first | omega | (simp only [List.length_append, List.length_cons, List.length_nil, List.length_set, List.length_replicate, Int.toNat_natCast]; omega)) [idf_Wd', hsm, idf_Wd', idf_numS, cells_numS, numS_fold, idf_numI, cells_numI, numI_fold, Pt.av, Pt.cells, l3A, l3C]) (by simp (disch := first | omega | (simp only [List.length_append, List.length_cons, List.length_nil, List.length_set, List.length_replicate, Int.toNat_natCast]; omega)) [hsm]) (by simp) ?_
      simp only [updo]
      refine DP.runFk 2 (by simp (disch := first | omega | (simp only [List.length_append, List.length_cons, List.length_nil, List.length_set, List.length_replicate, Int.toNat_natCast]; omega)) [runDf.eq_def, runF1, runF2, stepF.eq_def, updo.eq_def, hupo.eq_def, opSto1.eq_def, List.take_succ_cons, List.take_zero, szT2, agT2, unT2, zoT2, byT2, szT4, agT4, unT4, zoT4, byT4, szT90, agT90, elT90, unT90, zoT90, byT90, szT92, agT92, flT92, zoT92, byT92, szT94, agT94, flT94, zoT94, byT94, fdT92_0, fdT92_1, fdT94_0, fdT94_1, fdT94_2, idf_Wd', idf_numS, cells_numS, numS_fold, idf_numI, cells_numI, numI_fold, Pt.av, Pt.cells, l3A, l3C, hsm]; rfl) fun fs11 hfs11 => ?_
      replace hfs11 : fs11.length = 2 := hfs11.trans rfl
      simp only [List.drop_succ_cons, List.drop_zero]
      refine DQ.runF (m := 21) (by simp only [List.length_append, List.length_cons, List.length_nil, hfs7, hfs8, hfs9, hfs10, hfs11]; omega) _ _ _ (by kernel_rfl) rfl (by simp (disch := first | omega | (simp only [List.length_append, List.length_cons, List.length_nil, List.length_set, List.length_replicate, Int.toNat_natCast]; omega)) [runDf.eq_def, runF1, runF2, stepF.eq_def, updo.eq_def, hupo.eq_def, opSto1.eq_def, szT2, agT2, unT2, zoT2, byT2, szT4, agT4, unT4, zoT4, byT4, szT90, agT90, elT90, unT90, zoT90, byT90, szT92, agT92, flT92, zoT92, byT92, szT94, agT94, flT94, zoT94, byT94, fdT92_0, fdT92_1, fdT94_0, fdT94_1, fdT94_2, idf_Wd', idf_numS, cells_numS, numS_fold, idf_numI, cells_numI, numI_fold, Pt.av, Pt.cells, l3A, l3C, hsm]; rfl) ?_
      refine hK3 _ ?_
      refine AWP.ret ?_
      exact hK _ _ _ _ trivial ((Fin.mk (by simp [aRes, aResL, aRes1, idf_Wd', idf_numS, cells_numS, numS_fold, idf_numI, cells_numI, numI_fold, Pt.av, Pt.cells, l3A, l3C]; rfl)).cast (by rw [hg]; simp [hw, hsm, hce]))
  · obtain ⟨c0, hc0, hc1⟩ := hs0 hw
    have c1 : decide (0 < c0) = false := by simp; omega
    refine AWP.draw 21 Try.checked.mixed (by kernel_rfl) (by simp) ?_
    simp only [List.take_succ_cons, List.take_zero, List.drop_succ_cons, List.drop_zero]
    refine DP.runFk 2 (by simp (disch := first | omega | (simp only [List.length_append, List.length_cons, List.length_nil, List.length_set, List.length_replicate, Int.toNat_natCast]; omega)) [runDf.eq_def, runF1, runF2, stepF.eq_def, updo.eq_def, hupo.eq_def, opSto1.eq_def, List.take_succ_cons, List.take_zero, szT2, agT2, unT2, zoT2, byT2, szT4, agT4, unT4, zoT4, byT4, szT90, agT90, elT90, unT90, zoT90, byT90, szT92, agT92, flT92, zoT92, byT92, szT94, agT94, flT94, zoT94, byT94, fdT92_0, fdT92_1, fdT94_0, fdT94_1, fdT94_2, idf_Wd', idf_numS, cells_numS, numS_fold, idf_numI, cells_numI, numI_fold, Pt.av, Pt.cells, l3A, l3C, c1]; rfl) fun fs12 hfs12 => ?_
    replace hfs12 : fs12.length = 2 := hfs12.trans rfl
    simp only [List.drop_succ_cons, List.drop_zero]
    refine DP.fcall (hc0) rfl rfl rfl hb85 (by simp (disch := first | omega | (simp only [List.length_append, List.length_cons, List.length_nil, List.length_set, List.length_replicate, Int.toNat_natCast]; omega)) [idf_Wd', c1, idf_Wd', idf_numS, cells_numS, numS_fold, idf_numI, cells_numI, numI_fold, Pt.av, Pt.cells, l3A, l3C]) (by simp (disch := first | omega | (simp only [List.length_append, List.length_cons, List.length_nil, List.length_set, List.length_replicate, Int.toNat_natCast]; omega)) [c1]) (by simp) ?_
    simp only [updo]
    refine DP.runFk 18 (by simp (disch := first | omega | (simp only [List.length_append, List.length_cons, List.length_nil, List.length_set, List.length_replicate, Int.toNat_natCast]; omega)) [runDf.eq_def, runF1, runF2, stepF.eq_def, updo.eq_def, hupo.eq_def, opSto1.eq_def, List.take_succ_cons, List.take_zero, szT2, agT2, unT2, zoT2, byT2, szT4, agT4, unT4, zoT4, byT4, szT90, agT90, elT90, unT90, zoT90, byT90, szT92, agT92, flT92, zoT92, byT92, szT94, agT94, flT94, zoT94, byT94, fdT92_0, fdT92_1, fdT94_0, fdT94_1, fdT94_2, idf_Wd', idf_numS, cells_numS, numS_fold, idf_numI, cells_numI, numI_fold, Pt.av, Pt.cells, l3A, l3C, c1]; rfl) fun fs13 hfs13 => ?_
    replace hfs13 : fs13.length = 18 := hfs13.trans rfl
    simp only [List.drop_succ_cons, List.drop_zero]
    refine DQ.runF (m := 21) (by simp only [List.length_append, List.length_cons, List.length_nil, hfs12, hfs13]; omega) _ _ _ (by kernel_rfl) rfl (by simp (disch := first | omega | (simp only [List.length_append, List.length_cons, List.length_nil, List.length_set, List.length_replicate, Int.toNat_natCast]; omega)) [runDf.eq_def, runF1, runF2, stepF.eq_def, updo.eq_def, hupo.eq_def, opSto1.eq_def, szT2, agT2, unT2, zoT2, byT2, szT4, agT4, unT4, zoT4, byT4, szT90, agT90, elT90, unT90, zoT90, byT90, szT92, agT92, flT92, zoT92, byT92, szT94, agT94, flT94, zoT94, byT94, fdT92_0, fdT92_1, fdT94_0, fdT94_1, fdT94_2, idf_Wd', idf_numS, cells_numS, numS_fold, idf_numI, cells_numI, numI_fold, Pt.av, Pt.cells, l3A, l3C, c1]; rfl) ?_
    refine hK3 _ ?_
    refine AWP.ret ?_
    exact hK _ _ _ _ trivial ((Fin.mk (by simp [aRes, aResL, aRes1, idf_Wd', idf_numS, cells_numS, numS_fold, idf_numI, cells_numI, numI_fold, Pt.av, Pt.cells, l3A, l3C]; rfl)).cast (by rw [hg]; simp [hw]))

set_option maxHeartbeats 2000000 in
theorem pointOkI_fc (p : Pt) (hp : p.ok) : FC Try.prog 81 [p.av] (.bool p.good) := by
  have bX := W4.bg hp.1
  have bY := W4.bg hp.2.1
  have bW := W4.bg hp.2.2
  obtain ⟨X, hX⟩ : ∃ X, p.x.v = X := ⟨_, rfl⟩
  obtain ⟨Y, hY⟩ : ∃ Y, p.y.v = Y := ⟨_, rfl⟩
  obtain ⟨W, hW⟩ : ∃ W, p.w.v = W := ⟨_, rfl⟩
  have hg : p.good = (decide (0 < W) && sm X Y W && decide (Nat.gcd (Int.gcd X Y) W.natAbs = 1)) := by unfold Pt.good; rw [hX, hY, hW]
  rw [hX] at bX
  rw [hY] at bY
  rw [hW] at bW
  have hs1 : 0 < W → FC Try.prog 63 [numI W] (.int .i64 1) := fun h => by
    have h1 := sign_fc W
    rw [if_neg (by omega), if_pos h] at h1; exact h1
  have hs0 : ¬ 0 < W → ∃ c : Int, FC Try.prog 63 [numI W] (.int .i64 c) ∧ c ≤ 0 := fun h => ⟨_, sign_fc W, by split <;> (try split) <;> omega⟩
  have bG1 : Bg 4 ((Int.gcd X Y : Nat) : Int) := Bg.gcd bX.abs bY.abs
  have bG : Bg 4 ((Nat.gcd (Int.gcd X Y) W.natAbs : Nat) : Int) := Bg.gcd bG1 bW.abs
  obtain ⟨cc, hcf, hce⟩ : ∃ c : Int, FC Try.prog 65 [numI ((Nat.gcd (Int.gcd X Y) W.natAbs : Nat) : Int), numI 1] (.int .i64 c) ∧ (c == 0) = decide (Nat.gcd (Int.gcd X Y) W.natAbs = 1) := ⟨_, cmp_fc bG (Bg.i64 (n := 1) (by omega) (by omega)) (by omega) (by omega), by rw [one_cmp]; congr 1; apply propext; omega⟩
  have hl3 := spot_fc p hp
  rw [hX, hY, hW] at hl3
  have hg2 : FC Try.prog 64 [.isl [numC X, numC Y, numC W]] (numI ((Nat.gcd (Int.gcd X Y) W.natAbs : Nat) : Int)) := by
    have h := gcd_fc (j := 4) [X, Y, W] (by intro z hz; simp only [List.mem_cons, List.not_mem_nil, or_false] at hz; rcases hz with rfl | rfl | rfl <;> assumption) (by omega) (by simp)
    rw [gcdL_three] at h; exact h
  have hms := max_sm X Y W
  refine FC.body Try.func81 rfl (by simp [idfL, idf, idfLL_iff, idf_Wd', idf_numS, cells_numS, numS_fold, idf_numI, cells_numI, numI_fold, Pt.av, Pt.cells, spA, spC, numC]) (by simp [idfL, idf, idfLL_iff, idf_Wd', idf_numS, cells_numS, numS_fold, idf_numI, cells_numI, numI_fold, Pt.av, Pt.cells, spA, spC, numC]) 36 rfl fun nx K hK => ?_
  refine AWP.seqk fun K1 hK1 => ?_
  refine AWP.region (AOPS.all (by simp (disch := first | omega | (simp only [List.length_append, List.length_cons, List.length_nil, List.length_set, List.length_replicate, Int.toNat_natCast]; omega)) [szT33, agT33, flT33, zoT33, byT33, szT35, agT35, flT35, zoT35, byT35, fdT35_0, fdT35_1, fdT35_2, idf_Wd', idf_numS, cells_numS, numS_fold, idf_numI, cells_numI, numI_fold, Pt.av, Pt.cells, spA, spC, numC]; rfl) ?_)
  refine hK1 _ ?_
  refine AWP.seqk fun K2 hK2 => ?_
  refine AWP.region ?_
  refine AOPS.runk 1 (by simp (disch := first | omega | (simp only [List.length_append, List.length_cons, List.length_nil, List.length_set, List.length_replicate, Int.toNat_natCast]; omega)) [List.take_succ_cons, List.take_zero, szT33, agT33, flT33, zoT33, byT33, szT35, agT35, flT35, zoT35, byT35, szT99, agT99, flT99, zoT99, byT99, szT150, agT150, flT150, zoT150, byT150, fdT35_0, fdT35_1, fdT35_2, fdT150_0, fdT150_1, fdT150_2, idf_Wd', idf_numS, cells_numS, numS_fold, idf_numI, cells_numI, numI_fold, Pt.av, Pt.cells, spA, spC, numC]; rfl) ?_
  simp only [List.drop_succ_cons, List.drop_zero]
  refine AOPS.fcall (hl3) rfl rfl rfl hb103 (by simp (disch := first | omega | (simp only [List.length_append, List.length_cons, List.length_nil, List.length_set, List.length_replicate, Int.toNat_natCast]; omega)) [idf_Wd', idf_Wd', idf_numS, cells_numS, numS_fold, idf_numI, cells_numI, numI_fold, Pt.av, Pt.cells, spA, spC, numC]) (by simp (disch := first | omega | (simp only [List.length_append, List.length_cons, List.length_nil, List.length_set, List.length_replicate, Int.toNat_natCast]; omega))) (by simp) ?_
  simp only [puts_some, updo]
  refine AOPS.all (by simp (disch := first | omega | (simp only [List.length_append, List.length_cons, List.length_nil, List.length_set, List.length_replicate, Int.toNat_natCast]; omega)) [szT33, agT33, flT33, zoT33, byT33, szT35, agT35, flT35, zoT35, byT35, szT99, agT99, flT99, zoT99, byT99, szT150, agT150, flT150, zoT150, byT150, fdT35_0, fdT35_1, fdT35_2, fdT150_0, fdT150_1, fdT150_2, idf_Wd', idf_numS, cells_numS, numS_fold, idf_numI, cells_numI, numI_fold, Pt.av, Pt.cells, spA, spC, numC]; rfl) ?_
  refine hK2 _ ?_
  refine AWP.seqk fun K3 hK3 => ?_
  by_cases hw : 0 < W
  · cases hsm : sm X Y W
    · rw [hsm] at hms
      refine AWP.draw 30 Try.checked.mixed (by kernel_rfl) (by simp) ?_
      simp only [List.take_succ_cons, List.take_zero, List.drop_succ_cons, List.drop_zero]
      refine DP.runFk 2 (by simp (disch := first | omega | (simp only [List.length_append, List.length_cons, List.length_nil, List.length_set, List.length_replicate, Int.toNat_natCast]; omega)) [runDf.eq_def, runF1, runF2, stepF.eq_def, updo.eq_def, hupo.eq_def, opSto1.eq_def, List.take_succ_cons, List.take_zero, szT2, agT2, unT2, zoT2, byT2, szT4, agT4, unT4, zoT4, byT4, szT97, agT97, elT97, unT97, zoT97, byT97, szT99, agT99, flT99, zoT99, byT99, szT150, agT150, flT150, zoT150, byT150, szT162, agT162, elT162, unT162, zoT162, byT162, fdT99_0, fdT99_1, fdT150_0, fdT150_1, fdT150_2, idf_Wd', idf_numS, cells_numS, numS_fold, idf_numI, cells_numI, numI_fold, Pt.av, Pt.cells, spA, spC, numC, hms]; rfl) fun fs4 hfs4 => ?_
      replace hfs4 : fs4.length = 2 := hfs4.trans rfl
      simp only [List.drop_succ_cons, List.drop_zero]
      refine DP.fcall (hs1 hw) rfl rfl rfl hb63 (by simp (disch := first | omega | (simp only [List.length_append, List.length_cons, List.length_nil, List.length_set, List.length_replicate, Int.toNat_natCast]; omega)) [idf_Wd', hms, idf_Wd', idf_numS, cells_numS, numS_fold, idf_numI, cells_numI, numI_fold, Pt.av, Pt.cells, spA, spC, numC]) (by simp (disch := first | omega | (simp only [List.length_append, List.length_cons, List.length_nil, List.length_set, List.length_replicate, Int.toNat_natCast]; omega)) [hms]) (by simp) ?_
      simp only [updo]
      refine DP.runFk 4 (by simp (disch := first | omega | (simp only [List.length_append, List.length_cons, List.length_nil, List.length_set, List.length_replicate, Int.toNat_natCast]; omega)) [runDf.eq_def, runF1, runF2, stepF.eq_def, updo.eq_def, hupo.eq_def, opSto1.eq_def, List.take_succ_cons, List.take_zero, szT2, agT2, unT2, zoT2, byT2, szT4, agT4, unT4, zoT4, byT4, szT97, agT97, elT97, unT97, zoT97, byT97, szT99, agT99, flT99, zoT99, byT99, szT150, agT150, flT150, zoT150, byT150, szT162, agT162, elT162, unT162, zoT162, byT162, fdT99_0, fdT99_1, fdT150_0, fdT150_1, fdT150_2, idf_Wd', idf_numS, cells_numS, numS_fold, idf_numI, cells_numI, numI_fold, Pt.av, Pt.cells, spA, spC, numC, hms]; rfl) fun fs5 hfs5 => ?_
      replace hfs5 : fs5.length = 4 := hfs5.trans rfl
      simp only [List.drop_succ_cons, List.drop_zero]
      refine DP.fcall (size_fc bX (by omega)) rfl rfl rfl hb114 (by simp (disch := first | omega | (simp only [List.length_append, List.length_cons, List.length_nil, List.length_set, List.length_replicate, Int.toNat_natCast]; omega)) [idf_Wd', hms, idf_Wd', idf_numS, cells_numS, numS_fold, idf_numI, cells_numI, numI_fold, Pt.av, Pt.cells, spA, spC, numC]) (by simp (disch := first | omega | (simp only [List.length_append, List.length_cons, List.length_nil, List.length_set, List.length_replicate, Int.toNat_natCast]; omega)) [hms]) (by simp) ?_
      simp only [updo]
      refine DP.runFk 2 (by simp (disch := first | omega | (simp only [List.length_append, List.length_cons, List.length_nil, List.length_set, List.length_replicate, Int.toNat_natCast]; omega)) [runDf.eq_def, runF1, runF2, stepF.eq_def, updo.eq_def, hupo.eq_def, opSto1.eq_def, List.take_succ_cons, List.take_zero, szT2, agT2, unT2, zoT2, byT2, szT4, agT4, unT4, zoT4, byT4, szT97, agT97, elT97, unT97, zoT97, byT97, szT99, agT99, flT99, zoT99, byT99, szT150, agT150, flT150, zoT150, byT150, szT162, agT162, elT162, unT162, zoT162, byT162, fdT99_0, fdT99_1, fdT150_0, fdT150_1, fdT150_2, idf_Wd', idf_numS, cells_numS, numS_fold, idf_numI, cells_numI, numI_fold, Pt.av, Pt.cells, spA, spC, numC, hms]; rfl) fun fs6 hfs6 => ?_
      replace hfs6 : fs6.length = 2 := hfs6.trans rfl
      simp only [List.drop_succ_cons, List.drop_zero]
      refine DP.fcall (size_fc bY (by omega)) rfl rfl rfl hb114 (by simp (disch := first | omega | (simp only [List.length_append, List.length_cons, List.length_nil, List.length_set, List.length_replicate, Int.toNat_natCast]; omega)) [idf_Wd', hms, idf_Wd', idf_numS, cells_numS, numS_fold, idf_numI, cells_numI, numI_fold, Pt.av, Pt.cells, spA, spC, numC]) (by simp (disch := first | omega | (simp only [List.length_append, List.length_cons, List.length_nil, List.length_set, List.length_replicate, Int.toNat_natCast]; omega)) [hms]) (by simp) ?_
      simp only [updo]
      refine DP.runFk 2 (by simp (disch := first | omega | (simp only [List.length_append, List.length_cons, List.length_nil, List.length_set, List.length_replicate, Int.toNat_natCast]; omega)) [runDf.eq_def, runF1, runF2, stepF.eq_def, updo.eq_def, hupo.eq_def, opSto1.eq_def, List.take_succ_cons, List.take_zero, szT2, agT2, unT2, zoT2, byT2, szT4, agT4, unT4, zoT4, byT4, szT97, agT97, elT97, unT97, zoT97, byT97, szT99, agT99, flT99, zoT99, byT99, szT150, agT150, flT150, zoT150, byT150, szT162, agT162, elT162, unT162, zoT162, byT162, fdT99_0, fdT99_1, fdT150_0, fdT150_1, fdT150_2, idf_Wd', idf_numS, cells_numS, numS_fold, idf_numI, cells_numI, numI_fold, Pt.av, Pt.cells, spA, spC, numC, hms]; rfl) fun fs7 hfs7 => ?_
      replace hfs7 : fs7.length = 2 := hfs7.trans rfl
      simp only [List.drop_succ_cons, List.drop_zero]
      refine DP.fcall (size_fc bW (by omega)) rfl rfl rfl hb114 (by simp (disch := first | omega | (simp only [List.length_append, List.length_cons, List.length_nil, List.length_set, List.length_replicate, Int.toNat_natCast]; omega)) [idf_Wd', hms, idf_Wd', idf_numS, cells_numS, numS_fold, idf_numI, cells_numI, numI_fold, Pt.av, Pt.cells, spA, spC, numC]) (by simp (disch := first | omega | (simp only [List.length_append, List.length_cons, List.length_nil, List.length_set, List.length_replicate, Int.toNat_natCast]; omega)) [hms]) (by simp) ?_
      simp only [updo]
      refine DP.runFk 16 (by simp (disch := first | omega | (simp only [List.length_append, List.length_cons, List.length_nil, List.length_set, List.length_replicate, Int.toNat_natCast]; omega)) [runDf.eq_def, runF1, runF2, stepF.eq_def, updo.eq_def, hupo.eq_def, opSto1.eq_def, List.take_succ_cons, List.take_zero, szT2, agT2, unT2, zoT2, byT2, szT4, agT4, unT4, zoT4, byT4, szT97, agT97, elT97, unT97, zoT97, byT97, szT99, agT99, flT99, zoT99, byT99, szT150, agT150, flT150, zoT150, byT150, szT162, agT162, elT162, unT162, zoT162, byT162, fdT99_0, fdT99_1, fdT150_0, fdT150_1, fdT150_2, idf_Wd', idf_numS, cells_numS, numS_fold, idf_numI, cells_numI, numI_fold, Pt.av, Pt.cells, spA, spC, numC, hms]; rfl) fun fs8 hfs8 => ?_
      replace hfs8 : fs8.length = 16 := hfs8.trans rfl
      simp only [List.drop_succ_cons, List.drop_zero]
      refine DQ.runF (m := 30) (by simp only [List.length_append, List.length_cons, List.length_nil, hfs4, hfs5, hfs6, hfs7, hfs8]; omega) _ _ _ (by kernel_rfl) rfl (by simp (disch := first | omega | (simp only [List.length_append, List.length_cons, List.length_nil, List.length_set, List.length_replicate, Int.toNat_natCast]; omega)) [runDf.eq_def, runF1, runF2, stepF.eq_def, updo.eq_def, hupo.eq_def, opSto1.eq_def, szT2, agT2, unT2, zoT2, byT2, szT4, agT4, unT4, zoT4, byT4, szT97, agT97, elT97, unT97, zoT97, byT97, szT99, agT99, flT99, zoT99, byT99, szT150, agT150, flT150, zoT150, byT150, szT162, agT162, elT162, unT162, zoT162, byT162, fdT99_0, fdT99_1, fdT150_0, fdT150_1, fdT150_2, idf_Wd', idf_numS, cells_numS, numS_fold, idf_numI, cells_numI, numI_fold, Pt.av, Pt.cells, spA, spC, numC, hms]; rfl) ?_
      refine hK3 _ ?_
      refine AWP.ret ?_
      exact hK _ _ _ _ trivial ((Fin.mk (by simp [aRes, aResL, aRes1, idf_Wd', idf_numS, cells_numS, numS_fold, idf_numI, cells_numI, numI_fold, Pt.av, Pt.cells, spA, spC, numC]; rfl)).cast (by rw [hg]; simp [hw, hsm]))
    · rw [hsm] at hms
      refine AWP.draw 30 Try.checked.mixed (by kernel_rfl) (by simp) ?_
      simp only [List.take_succ_cons, List.take_zero, List.drop_succ_cons, List.drop_zero]
      refine DP.runFk 2 (by simp (disch := first | omega | (simp only [List.length_append, List.length_cons, List.length_nil, List.length_set, List.length_replicate, Int.toNat_natCast]; omega)) [runDf.eq_def, runF1, runF2, stepF.eq_def, updo.eq_def, hupo.eq_def, opSto1.eq_def, List.take_succ_cons, List.take_zero, szT2, agT2, unT2, zoT2, byT2, szT4, agT4, unT4, zoT4, byT4, szT97, agT97, elT97, unT97, zoT97, byT97, szT99, agT99, flT99, zoT99, byT99, szT150, agT150, flT150, zoT150, byT150, szT162, agT162, elT162, unT162, zoT162, byT162, fdT99_0, fdT99_1, fdT150_0, fdT150_1, fdT150_2, idf_Wd', idf_numS, cells_numS, numS_fold, idf_numI, cells_numI, numI_fold, Pt.av, Pt.cells, spA, spC, numC, hms]; rfl) fun fs9 hfs9 => ?_
      replace hfs9 : fs9.length = 2 := hfs9.trans rfl
      simp only [List.drop_succ_cons, List.drop_zero]
      refine DP.fcall (hs1 hw) rfl rfl rfl hb63 (by simp (disch := first | omega | (simp only [List.length_append, List.length_cons, List.length_nil, List.length_set, List.length_replicate, Int.toNat_natCast]; omega)) [idf_Wd', hms, idf_Wd', idf_numS, cells_numS, numS_fold, idf_numI, cells_numI, numI_fold, Pt.av, Pt.cells, spA, spC, numC]) (by simp (disch := first | omega | (simp only [List.length_append, List.length_cons, List.length_nil, List.length_set, List.length_replicate, Int.toNat_natCast]; omega)) [hms]) (by simp) ?_
      simp only [updo]
      refine DP.runFk 4 (by simp (disch := first | omega | (simp only [List.length_append, List.length_cons, List.length_nil, List.length_set, List.length_replicate, Int.toNat_natCast]; omega)) [runDf.eq_def, runF1, runF2, stepF.eq_def, updo.eq_def, hupo.eq_def, opSto1.eq_def, List.take_succ_cons, List.take_zero, szT2, agT2, unT2, zoT2, byT2, szT4, agT4, unT4, zoT4, byT4, szT97, agT97, elT97, unT97, zoT97, byT97, szT99, agT99, flT99, zoT99, byT99, szT150, agT150, flT150, zoT150, byT150, szT162, agT162, elT162, unT162, zoT162, byT162, fdT99_0, fdT99_1, fdT150_0, fdT150_1, fdT150_2, idf_Wd', idf_numS, cells_numS, numS_fold, idf_numI, cells_numI, numI_fold, Pt.av, Pt.cells, spA, spC, numC, hms]; rfl) fun fs10 hfs10 => ?_
      replace hfs10 : fs10.length = 4 := hfs10.trans rfl
      simp only [List.drop_succ_cons, List.drop_zero]
      refine DP.fcall (size_fc bX (by omega)) rfl rfl rfl hb114 (by simp (disch := first | omega | (simp only [List.length_append, List.length_cons, List.length_nil, List.length_set, List.length_replicate, Int.toNat_natCast]; omega)) [idf_Wd', hms, idf_Wd', idf_numS, cells_numS, numS_fold, idf_numI, cells_numI, numI_fold, Pt.av, Pt.cells, spA, spC, numC]) (by simp (disch := first | omega | (simp only [List.length_append, List.length_cons, List.length_nil, List.length_set, List.length_replicate, Int.toNat_natCast]; omega)) [hms]) (by simp) ?_
      simp only [updo]
      refine DP.runFk 2 (by simp (disch := first | omega | (simp only [List.length_append, List.length_cons, List.length_nil, List.length_set, List.length_replicate, Int.toNat_natCast]; omega)) [runDf.eq_def, runF1, runF2, stepF.eq_def, updo.eq_def, hupo.eq_def, opSto1.eq_def, List.take_succ_cons, List.take_zero, szT2, agT2, unT2, zoT2, byT2, szT4, agT4, unT4, zoT4, byT4, szT97, agT97, elT97, unT97, zoT97, byT97, szT99, agT99, flT99, zoT99, byT99, szT150, agT150, flT150, zoT150, byT150, szT162, agT162, elT162, unT162, zoT162, byT162, fdT99_0, fdT99_1, fdT150_0, fdT150_1, fdT150_2, idf_Wd', idf_numS, cells_numS, numS_fold, idf_numI, cells_numI, numI_fold, Pt.av, Pt.cells, spA, spC, numC, hms]; rfl) fun fs11 hfs11 => ?_
      replace hfs11 : fs11.length = 2 := hfs11.trans rfl
      simp only [List.drop_succ_cons, List.drop_zero]
      refine DP.fcall (size_fc bY (by omega)) rfl rfl rfl hb114 (by simp (disch := first | omega | (simp only [List.length_append, List.length_cons, List.length_nil, List.length_set, List.length_replicate, Int.toNat_natCast]; omega)) [idf_Wd', hms, idf_Wd', idf_numS, cells_numS, numS_fold, idf_numI, cells_numI, numI_fold, Pt.av, Pt.cells, spA, spC, numC]) (by simp (disch := first | omega | (simp only [List.length_append, List.length_cons, List.length_nil, List.length_set, List.length_replicate, Int.toNat_natCast]; omega)) [hms]) (by simp) ?_
      simp only [updo]
      refine DP.runFk 2 (by simp (disch := first | omega | (simp only [List.length_append, List.length_cons, List.length_nil, List.length_set, List.length_replicate, Int.toNat_natCast]; omega)) [runDf.eq_def, runF1, runF2, stepF.eq_def, updo.eq_def, hupo.eq_def, opSto1.eq_def, List.take_succ_cons, List.take_zero, szT2, agT2, unT2, zoT2, byT2, szT4, agT4, unT4, zoT4, byT4, szT97, agT97, elT97, unT97, zoT97, byT97, szT99, agT99, flT99, zoT99, byT99, szT150, agT150, flT150, zoT150, byT150, szT162, agT162, elT162, unT162, zoT162, byT162, fdT99_0, fdT99_1, fdT150_0, fdT150_1, fdT150_2, idf_Wd', idf_numS, cells_numS, numS_fold, idf_numI, cells_numI, numI_fold, Pt.av, Pt.cells, spA, spC, numC, hms]; rfl) fun fs12 hfs12 => ?_
      replace hfs12 : fs12.length = 2 := hfs12.trans rfl
      simp only [List.drop_succ_cons, List.drop_zero]
      refine DP.fcall (size_fc bW (by omega)) rfl rfl rfl hb114 (by simp (disch := first | omega | (simp only [List.length_append, List.length_cons, List.length_nil, List.length_set, List.length_replicate, Int.toNat_natCast]; omega)) [idf_Wd', hms, idf_Wd', idf_numS, cells_numS, numS_fold, idf_numI, cells_numI, numI_fold, Pt.av, Pt.cells, spA, spC, numC]) (by simp (disch := first | omega | (simp only [List.length_append, List.length_cons, List.length_nil, List.length_set, List.length_replicate, Int.toNat_natCast]; omega)) [hms]) (by simp) ?_
      simp only [updo]
      refine DP.runFk 11 (by simp (disch := first | omega | (simp only [List.length_append, List.length_cons, List.length_nil, List.length_set, List.length_replicate, Int.toNat_natCast]; omega)) [runDf.eq_def, runF1, runF2, stepF.eq_def, updo.eq_def, hupo.eq_def, opSto1.eq_def, List.take_succ_cons, List.take_zero, szT2, agT2, unT2, zoT2, byT2, szT4, agT4, unT4, zoT4, byT4, szT97, agT97, elT97, unT97, zoT97, byT97, szT99, agT99, flT99, zoT99, byT99, szT150, agT150, flT150, zoT150, byT150, szT162, agT162, elT162, unT162, zoT162, byT162, fdT99_0, fdT99_1, fdT150_0, fdT150_1, fdT150_2, idf_Wd', idf_numS, cells_numS, numS_fold, idf_numI, cells_numI, numI_fold, Pt.av, Pt.cells, spA, spC, numC, hms]; rfl) fun fs13 hfs13 => ?_
      replace hfs13 : fs13.length = 11 := hfs13.trans rfl
      simp only [List.drop_succ_cons, List.drop_zero]
      refine DP.fcall (hg2) rfl rfl rfl hb64 (by simp (disch := first | omega | (simp only [List.length_append, List.length_cons, List.length_nil, List.length_set, List.length_replicate, Int.toNat_natCast]; omega)) [idf_Wd', hms, idf_Wd', idf_numS, cells_numS, numS_fold, idf_numI, cells_numI, numI_fold, Pt.av, Pt.cells, spA, spC, numC]) (by simp (disch := first | omega | (simp only [List.length_append, List.length_cons, List.length_nil, List.length_set, List.length_replicate, Int.toNat_natCast]; omega)) [hms]) (by simp) ?_
      simp only [updo]
      refine DP.fcall (whole_fc 1 (by omega) (by omega)) rfl rfl rfl hb66 (by simp (disch := first | omega | (simp only [List.length_append, List.length_cons, List.length_nil, List.length_set, List.length_replicate, Int.toNat_natCast]; omega)) [idf_Wd', hms, idf_Wd', idf_numS, cells_numS, numS_fold, idf_numI, cells_numI, numI_fold, Pt.av, Pt.cells, spA, spC, numC]) (by simp (disch := first | omega | (simp only [List.length_append, List.length_cons, List.length_nil, List.length_set, List.length_replicate, Int.toNat_natCast]; omega)) [hms]) (by simp) ?_
      simp only [updo]
      refine DP.fcall (hcf) rfl rfl rfl hb65 (by simp (disch := first | omega | (simp only [List.length_append, List.length_cons, List.length_nil, List.length_set, List.length_replicate, Int.toNat_natCast]; omega)) [idf_Wd', hms, idf_Wd', idf_numS, cells_numS, numS_fold, idf_numI, cells_numI, numI_fold, Pt.av, Pt.cells, spA, spC, numC]) (by simp (disch := first | omega | (simp only [List.length_append, List.length_cons, List.length_nil, List.length_set, List.length_replicate, Int.toNat_natCast]; omega)) [hms]) (by simp) ?_
      simp only [updo]
      refine DP.runFk 2 (by simp (disch := first | omega | (simp only [List.length_append, List.length_cons, List.length_nil, List.length_set, List.length_replicate, Int.toNat_natCast]; omega)) [runDf.eq_def, runF1, runF2, stepF.eq_def, updo.eq_def, hupo.eq_def, opSto1.eq_def, List.take_succ_cons, List.take_zero, szT2, agT2, unT2, zoT2, byT2, szT4, agT4, unT4, zoT4, byT4, szT97, agT97, elT97, unT97, zoT97, byT97, szT99, agT99, flT99, zoT99, byT99, szT150, agT150, flT150, zoT150, byT150, szT162, agT162, elT162, unT162, zoT162, byT162, fdT99_0, fdT99_1, fdT150_0, fdT150_1, fdT150_2, idf_Wd', idf_numS, cells_numS, numS_fold, idf_numI, cells_numI, numI_fold, Pt.av, Pt.cells, spA, spC, numC, hms]; rfl) fun fs14 hfs14 => ?_
      replace hfs14 : fs14.length = 2 := hfs14.trans rfl
      simp only [List.drop_succ_cons, List.drop_zero]
      refine DQ.runF (m := 30) (by simp only [List.length_append, List.length_cons, List.length_nil, hfs9, hfs10, hfs11, hfs12, hfs13, hfs14]; omega) _ _ _ (by kernel_rfl) rfl (by simp (disch := first | omega | (simp only [List.length_append, List.length_cons, List.length_nil, List.length_set, List.length_replicate, Int.toNat_natCast]; omega)) [runDf.eq_def, runF1, runF2, stepF.eq_def, updo.eq_def, hupo.eq_def, opSto1.eq_def, szT2, agT2, unT2, zoT2, byT2, szT4, agT4, unT4, zoT4, byT4, szT97, agT97, elT97, unT97, zoT97, byT97, szT99, agT99, flT99, zoT99, byT99, szT150, agT150, flT150, zoT150, byT150, szT162, agT162, elT162, unT162, zoT162, byT162, fdT99_0, fdT99_1, fdT150_0, fdT150_1, fdT150_2, idf_Wd', idf_numS, cells_numS, numS_fold, idf_numI, cells_numI, numI_fold, Pt.av, Pt.cells, spA, spC, numC, hms]; rfl) ?_
      refine hK3 _ ?_
      refine AWP.ret ?_
      exact hK _ _ _ _ trivial ((Fin.mk (by simp [aRes, aResL, aRes1, idf_Wd', idf_numS, cells_numS, numS_fold, idf_numI, cells_numI, numI_fold, Pt.av, Pt.cells, spA, spC, numC]; rfl)).cast (by rw [hg]; simp [hw, hsm, hce]))
  · obtain ⟨c0, hc0, hc1⟩ := hs0 hw
    have c1 : decide (0 < c0) = false := by simp; omega
    refine AWP.draw 30 Try.checked.mixed (by kernel_rfl) (by simp) ?_
    simp only [List.take_succ_cons, List.take_zero, List.drop_succ_cons, List.drop_zero]
    refine DP.runFk 2 (by simp (disch := first | omega | (simp only [List.length_append, List.length_cons, List.length_nil, List.length_set, List.length_replicate, Int.toNat_natCast]; omega)) [runDf.eq_def, runF1, runF2, stepF.eq_def, updo.eq_def, hupo.eq_def, opSto1.eq_def, List.take_succ_cons, List.take_zero, szT2, agT2, unT2, zoT2, byT2, szT4, agT4, unT4, zoT4, byT4, szT97, agT97, elT97, unT97, zoT97, byT97, szT99, agT99, flT99, zoT99, byT99, szT150, agT150, flT150, zoT150, byT150, szT162, agT162, elT162, unT162, zoT162, byT162, fdT99_0, fdT99_1, fdT150_0, fdT150_1, fdT150_2, idf_Wd', idf_numS, cells_numS, numS_fold, idf_numI, cells_numI, numI_fold, Pt.av, Pt.cells, spA, spC, numC, c1]; rfl) fun fs15 hfs15 => ?_
    replace hfs15 : fs15.length = 2 := hfs15.trans rfl
    simp only [List.drop_succ_cons, List.drop_zero]
    refine DP.fcall (hc0) rfl rfl rfl hb63 (by simp (disch := first | omega | (simp only [List.length_append, List.length_cons, List.length_nil, List.length_set, List.length_replicate, Int.toNat_natCast]; omega)) [idf_Wd', c1, idf_Wd', idf_numS, cells_numS, numS_fold, idf_numI, cells_numI, numI_fold, Pt.av, Pt.cells, spA, spC, numC]) (by simp (disch := first | omega | (simp only [List.length_append, List.length_cons, List.length_nil, List.length_set, List.length_replicate, Int.toNat_natCast]; omega)) [c1]) (by simp) ?_
    simp only [updo]
    refine DP.runFk 27 (by simp (disch := first | omega | (simp only [List.length_append, List.length_cons, List.length_nil, List.length_set, List.length_replicate, Int.toNat_natCast]; omega)) [runDf.eq_def, runF1, runF2, stepF.eq_def, updo.eq_def, hupo.eq_def, opSto1.eq_def, List.take_succ_cons, List.take_zero, szT2, agT2, unT2, zoT2, byT2, szT4, agT4, unT4, zoT4, byT4, szT97, agT97, elT97, unT97, zoT97, byT97, szT99, agT99, flT99, zoT99, byT99, szT150, agT150, flT150, zoT150, byT150, szT162, agT162, elT162, unT162, zoT162, byT162, fdT99_0, fdT99_1, fdT150_0, fdT150_1, fdT150_2, idf_Wd', idf_numS, cells_numS, numS_fold, idf_numI, cells_numI, numI_fold, Pt.av, Pt.cells, spA, spC, numC, c1]; rfl) fun fs16 hfs16 => ?_
    replace hfs16 : fs16.length = 27 := hfs16.trans rfl
    simp only [List.drop_succ_cons, List.drop_zero]
    refine DQ.runF (m := 30) (by simp only [List.length_append, List.length_cons, List.length_nil, hfs15, hfs16]; omega) _ _ _ (by kernel_rfl) rfl (by simp (disch := first | omega | (simp only [List.length_append, List.length_cons, List.length_nil, List.length_set, List.length_replicate, Int.toNat_natCast]; omega)) [runDf.eq_def, runF1, runF2, stepF.eq_def, updo.eq_def, hupo.eq_def, opSto1.eq_def, szT2, agT2, unT2, zoT2, byT2, szT4, agT4, unT4, zoT4, byT4, szT97, agT97, elT97, unT97, zoT97, byT97, szT99, agT99, flT99, zoT99, byT99, szT150, agT150, flT150, zoT150, byT150, szT162, agT162, elT162, unT162, zoT162, byT162, fdT99_0, fdT99_1, fdT150_0, fdT150_1, fdT150_2, idf_Wd', idf_numS, cells_numS, numS_fold, idf_numI, cells_numI, numI_fold, Pt.av, Pt.cells, spA, spC, numC, c1]; rfl) ?_
    refine hK3 _ ?_
    refine AWP.ret ?_
    exact hK _ _ _ _ trivial ((Fin.mk (by simp [aRes, aResL, aRes1, idf_Wd', idf_numS, cells_numS, numS_fold, idf_numI, cells_numI, numI_fold, Pt.av, Pt.cells, spA, spC, numC]; rfl)).cast (by rw [hg]; simp [hw]))

set_option maxHeartbeats 1000000 in
theorem arePoints_fc (ps : List Pt) (hp : ∀ p ∈ ps, p.ok) (hl : ps.length ≤ 1099511627776) : FC Try.prog 42 [.isl (ps.map Pt.cells)] (.bool (ps.all Pt.good)) := by
  refine FC.body Try.func42 rfl (by simp [idfL, idf, idfLL_iff, Pt.cells]) (by simp [idfL, idf, idfLL_iff, idf_Wd', idf_numS, cells_numS, numS_fold, idf_numI, cells_numI, numI_fold, Pt.av, Pt.cells]) 15 rfl fun nx K hK => ?_
  refine AWP.seqk fun K1 hK1 => ?_
  refine AWP.region (AOPS.all (by simp (disch := first | omega | (simp only [List.length_append, List.length_cons, List.length_nil, List.length_set, List.length_replicate, Int.toNat_natCast]; omega)) [idf_Wd', idf_numS, cells_numS, numS_fold, idf_numI, cells_numI, numI_fold, Pt.av, Pt.cells]; rfl) ?_)
  refine hK1 _ ?_
  refine AWP.seqk fun K2 hK2 => ?_
  refine AWP.seqk fun K3 hK3 => ?_
  refine AWP.region (AOPS.all (by simp (disch := first | omega | (simp only [List.length_append, List.length_cons, List.length_nil, List.length_set, List.length_replicate, Int.toNat_natCast]; omega)) [szT35, agT35, flT35, zoT35, byT35, szT76, agT76, elT76, unT76, zoT76, byT76, idf_Wd', idf_numS, cells_numS, numS_fold, idf_numI, cells_numI, numI_fold, Pt.av, Pt.cells]; rfl) ?_)
  refine hK3 _ ?_
  refine AWP.block ?_
  refine AWP.loop (fun N s => ∃ i : Nat, N = ps.length - i ∧ i ≤ ps.length ∧ (ps.take i).all Pt.good = true ∧ s.env 5 = .isl (ps.map Pt.cells) ∧ s.env 6 = .int .i64 (ps.length : Int) ∧ s.env 7 = .int .i64 (i : Int) ∧ s.nt = 15) (ps.length) (⟨0, by omega, by omega, by simp, by simp, by simp, by simp, rfl⟩) ?_
  rintro N ⟨e, H, mm, nt⟩ ⟨i, rfl, hi, ha, h5, h6, h7, rfl⟩
  simp only [] at h5 h6 h7
  refine AWP.seqk fun K4 hK4 => ?_
  refine AWP.region (AOPS.all (by simp (disch := first | omega | (simp only [List.length_append, List.length_cons, List.length_nil, List.length_set, List.length_replicate, Int.toNat_natCast]; omega)) [szT3, agT3, unT3, zoT3, byT3, idf_Wd', idf_numS, cells_numS, numS_fold, idf_numI, cells_numI, numI_fold, Pt.av, Pt.cells, h6, h7]; rfl) ?_)
  refine hK4 _ ?_
  refine AWP.seqk fun K5 hK5 => ?_
  refine cond_ok _ (by simp (disch := first | omega | (simp only [List.length_append, List.length_cons, List.length_nil, List.length_set, List.length_replicate, Int.toNat_natCast]; omega)); rfl) (fun h8 => ?_) (fun h8 => ?_)
  · try simp only [decide_eq_true_eq, decide_eq_false_iff_not] at h8
    have hi' : i < ps.length := by omega
    obtain ⟨p, hpi⟩ : ∃ p, ps[i]? = some p := ⟨ps[i], by simp [hi']⟩
    have hmi : (ps.map Pt.cells)[i]? = some p.cells := by rw [List.getElem?_map, hpi]; rfl
    have hpo := hp p (List.mem_of_getElem? hpi)
    refine AWP.skip ?_
    refine hK5 _ ?_
    refine AWP.seqk fun K6 hK6 => ?_
    refine AWP.block ?_
    refine AWP.seqk fun K7 hK7 => ?_
    refine AWP.region (AOPS.all (by simp (disch := first | omega | (simp only [List.length_append, List.length_cons, List.length_nil, List.length_set, List.length_replicate, Int.toNat_natCast]; omega)) [szT33, agT33, flT33, zoT33, byT33, szT35, agT35, flT35, zoT35, byT35, szT76, agT76, elT76, unT76, zoT76, byT76, fdT35_0, fdT35_1, fdT35_2, if_pos, idf_Wd', idf_numS, cells_numS, numS_fold, idf_numI, cells_numI, numI_fold, Pt.av, Pt.cells, h5, h7, hmi, List.length_map]; rfl) ?_)
    refine hK7 _ ?_
    refine AWP.seqk fun K8 hK8 => ?_
    refine AWP.region ?_
    refine AOPS.runk 1 (by simp (disch := first | omega | (simp only [List.length_append, List.length_cons, List.length_nil, List.length_set, List.length_replicate, Int.toNat_natCast]; omega)) [List.take_succ_cons, List.take_zero, szT33, agT33, flT33, zoT33, byT33, szT35, agT35, flT35, zoT35, byT35, fdT35_0, fdT35_1, fdT35_2, idf_Wd', idf_numS, cells_numS, numS_fold, idf_numI, cells_numI, numI_fold, Pt.av, Pt.cells]; rfl) ?_
    simp only [List.drop_succ_cons, List.drop_zero]
    refine AOPS.fcall (pointOkI_fc p hpo) rfl rfl rfl hb81 (by simp (disch := first | omega | (simp only [List.length_append, List.length_cons, List.length_nil, List.length_set, List.length_replicate, Int.toNat_natCast]; omega)) [idf_Wd', idf_Wd', idf_numS, cells_numS, numS_fold, idf_numI, cells_numI, numI_fold, Pt.av, Pt.cells]) (by simp (disch := first | omega | (simp only [List.length_append, List.length_cons, List.length_nil, List.length_set, List.length_replicate, Int.toNat_natCast]; omega))) (by simp) ?_
    simp only [puts_some, updo]
    refine AOPS.all (by simp (disch := first | omega | (simp only [List.length_append, List.length_cons, List.length_nil, List.length_set, List.length_replicate, Int.toNat_natCast]; omega)) [szT33, agT33, flT33, zoT33, byT33, szT35, agT35, flT35, zoT35, byT35, fdT35_0, fdT35_1, fdT35_2, idf_Wd', idf_numS, cells_numS, numS_fold, idf_numI, cells_numI, numI_fold, Pt.av, Pt.cells]; rfl) ?_
    refine hK8 _ ?_
    refine cond_ok (!p.good) (by simp (disch := first | omega | (simp only [List.length_append, List.length_cons, List.length_nil, List.length_set, List.length_replicate, Int.toNat_natCast]; omega))) (fun h13 => ?_) (fun h13 => ?_)
    · try simp only [decide_eq_true_eq, decide_eq_false_iff_not] at h13
      have hbd : p.good = false := by simpa using h13
      refine AWP.seqk fun K9 hK9 => ?_
      refine AWP.region (AOPS.all (by simp (disch := first | omega | (simp only [List.length_append, List.length_cons, List.length_nil, List.length_set, List.length_replicate, Int.toNat_natCast]; omega)) [idf_Wd', idf_numS, cells_numS, numS_fold, idf_numI, cells_numI, numI_fold, Pt.av, Pt.cells]; rfl) ?_)
      refine hK9 _ ?_
      refine AWP.ret ?_
      exact hK _ _ _ _ trivial ((Fin.mk (by simp [aRes, aResL, aRes1, idf_Wd', idf_numS, cells_numS, numS_fold, idf_numI, cells_numI, numI_fold, Pt.av, Pt.cells]; rfl)).cast (by rw [all_bad hpi hbd]))
    · try simp only [decide_eq_true_eq, decide_eq_false_iff_not] at h13
      have hgd : p.good = true := by simpa using h13
      refine AWP.skip ?_
      refine hK6 _ ?_
      refine AWP.region (AOPS.all (by simp (disch := first | omega | (simp only [List.length_append, List.length_cons, List.length_nil, List.length_set, List.length_replicate, Int.toNat_natCast]; omega)) [szT3, agT3, unT3, zoT3, byT3, idf_Wd', idf_numS, cells_numS, numS_fold, idf_numI, cells_numI, numI_fold, Pt.av, Pt.cells, h7]; rfl) ?_)
      refine ⟨ps.length - (i + 1), by omega, i + 1, rfl, by omega, all_take hpi ha hgd, by simp [h5], by simp [h6], by simp (disch := omega) [h7], rfl⟩
  · try simp only [decide_eq_true_eq, decide_eq_false_iff_not] at h8
    have hin : i = ps.length := by omega
    rw [hin, List.take_length] at ha
    refine AWP.exit ?_
    refine hK2 _ ?_
    refine AWP.seqk fun K10 hK10 => ?_
    refine AWP.region (AOPS.all (by simp (disch := first | omega | (simp only [List.length_append, List.length_cons, List.length_nil, List.length_set, List.length_replicate, Int.toNat_natCast]; omega)) [idf_Wd', idf_numS, cells_numS, numS_fold, idf_numI, cells_numI, numI_fold, Pt.av, Pt.cells]; rfl) ?_)
    refine hK10 _ ?_
    refine AWP.ret ?_
    exact hK _ _ _ _ trivial ((Fin.mk (by simp [aRes, aResL, aRes1, idf_Wd', idf_numS, cells_numS, numS_fold, idf_numI, cells_numI, numI_fold, Pt.av, Pt.cells]; rfl)).cast (by rw [ha]))

end Go.Proofs.Ytdcggmbnjonemaa

/- Walks: are loops right? (both). -/
namespace Go.Proofs.Ytdcggmbnjonemaa
open Go Go.RowKit
set_option linter.unusedSimpArgs false
set_option linter.unusedVariables false
set_option maxRecDepth 100000
attribute [local simp] List.getElem?_cons_zero List.getElem?_cons_succ List.getElem?_toArray runOps stepOp.eq_def agd.eq_def dstOk.eq_def opVal.eq_def opNew.eq_def opSto.eq_def ev.eq_def cv.eq_def puts_some puts_none upd_ap lst.eq_def aBin.eq_def aUn.eq_def aBi_str aBi_isl aBi_osl aBi_nsl aBi_max aBi_min aBi_max3 aConv.eq_def aLd.eq_def aLoad.eq_def aField.eq_def aFld.eq_def aIdx_isl aIdx_osl aSlc_isl aSlc_osl aSlc_str aSlc_nsl bnd.eq_def evs_nil evs_cons aBuild.eq_def aFill splice.eq_def cells_agg cells_int cells_bool cells_str cells_nil cells_nsl cells_isl cells_osl cells_ptr cells_ip cells_fn cells_Wd one_int one_bool one_str one_nil one_nsl one_isl one_osl one_ptr one_ip one_fn one_Wd aSets hupd_eq hupd_ne wrap_i64s wrap_u64s wrap_u32s wrap_u8s wd_getD wd_set wd_len wd_replicate wd_one wd_fold fz_osl hupd_same aSix.eq_def aEqS.eq_def aEqB_bool aEqB_nsl aEqB_nil

set_option maxHeartbeats 2000000 in
theorem loopsOkI_fc (L : List (List Pt)) (hL : ∀ l ∈ L, ∀ p ∈ l, p.ok) (hl : L.length ≤ 1099511627776) (hl2 : ∀ l ∈ L, l.length ≤ 1099511627776) : FC Try.prog 12 [lsA L] (.bool (lOk L)) := by
  refine FC.body Try.func12 rfl (by simp [idfL, idf, idfLL_iff, lsA, ltC, Pt.cells]) (by simp [idfL, idf, idfLL_iff, idf_Wd']) 35 rfl fun nx K hK => ?_
  refine AWP.seqk fun K1 hK1 => ?_
  refine AWP.region (AOPS.all (by simp (disch := first | omega | (simp only [List.length_append, List.length_cons, List.length_nil, List.length_set, List.length_replicate, Int.toNat_natCast]; omega)) [idf_Wd']; rfl) ?_)
  refine hK1 _ ?_
  refine AWP.seqk fun K2 hK2 => ?_
  refine AWP.seqk fun K3 hK3 => ?_
  refine AWP.region (AOPS.all (by simp (disch := first | omega | (simp only [List.length_append, List.length_cons, List.length_nil, List.length_set, List.length_replicate, Int.toNat_natCast]; omega)) [szT3, agT3, unT3, zoT3, byT3, szT25, agT25, elT25, unT25, zoT25, byT25, szT78, agT78, flT78, zoT78, byT78, idf_Wd', lsA, List.length_map]; rfl) ?_)
  refine hK3 _ ?_
  refine cond_ok _ (by simp (disch := first | omega | (simp only [List.length_append, List.length_cons, List.length_nil, List.length_set, List.length_replicate, Int.toNat_natCast]; omega)); rfl) (fun h8 => ?_) (fun h8 => ?_)
  · try simp only [decide_eq_true_eq, decide_eq_false_iff_not] at h8
    refine AWP.seqk fun K4 hK4 => ?_
    refine AWP.region (AOPS.all (by simp (disch := first | omega | (simp only [List.length_append, List.length_cons, List.length_nil, List.length_set, List.length_replicate, Int.toNat_natCast]; omega)) [idf_Wd']; rfl) ?_)
    refine hK4 _ ?_
    refine AWP.ret ?_
    exact hK _ _ _ _ trivial ((Fin.mk (by simp [aRes, aResL, aRes1, idf_Wd']; rfl)).cast (by simp [lOk, show ¬ L.length ≤ 40 by omega]))
  · try simp only [decide_eq_true_eq, decide_eq_false_iff_not] at h8
    have h40 : L.length ≤ 40 := by omega
    have hv0 : lOk L = lOkGo (L.drop 0) 0 := by simp [lOk, h40]
    refine AWP.skip ?_
    refine hK2 _ ?_
    refine AWP.seqk fun K5 hK5 => ?_
    refine AWP.region (AOPS.all (by simp (disch := first | omega | (simp only [List.length_append, List.length_cons, List.length_nil, List.length_set, List.length_replicate, Int.toNat_natCast]; omega)) [idf_Wd']; rfl) ?_)
    refine hK5 _ ?_
    refine AWP.seqk fun K6 hK6 => ?_
    refine AWP.seqk fun K7 hK7 => ?_
    refine AWP.region (AOPS.all (by simp (disch := first | omega | (simp only [List.length_append, List.length_cons, List.length_nil, List.length_set, List.length_replicate, Int.toNat_natCast]; omega)) [szT25, agT25, elT25, unT25, zoT25, byT25, szT78, agT78, flT78, zoT78, byT78, idf_Wd', lsA, List.length_map]; rfl) ?_)
    refine hK7 _ ?_
    refine AWP.block ?_
    refine AWP.loop (fun N s => ∃ i n : Nat, N = L.length - i ∧ i ≤ L.length ∧ n ≤ 200 ∧ lOk L = lOkGo (L.drop i) n ∧ s.env 3 = .int .i64 (n : Int) ∧ s.env 9 = lsA L ∧ s.env 10 = .int .i64 (L.length : Int) ∧ s.env 11 = .int .i64 (i : Int) ∧ s.nt = 35) (L.length) (⟨0, 0, by omega, by omega, by omega, hv0, by simp, by simp [lsA], by simp, by simp, rfl⟩) ?_
    rintro N ⟨e, H, mm, nt⟩ ⟨i, n, rfl, hi, hn, hv, h3, h9, h10, h11, rfl⟩
    simp only [] at h3 h9 h10 h11
    refine AWP.seqk fun K8 hK8 => ?_
    refine AWP.region (AOPS.all (by simp (disch := first | omega | (simp only [List.length_append, List.length_cons, List.length_nil, List.length_set, List.length_replicate, Int.toNat_natCast]; omega)) [szT3, agT3, unT3, zoT3, byT3, idf_Wd', h10, h11]; rfl) ?_)
    refine hK8 _ ?_
    refine AWP.seqk fun K9 hK9 => ?_
    refine cond_ok _ (by simp (disch := first | omega | (simp only [List.length_append, List.length_cons, List.length_nil, List.length_set, List.length_replicate, Int.toNat_natCast]; omega)); rfl) (fun h12 => ?_) (fun h12 => ?_)
    · try simp only [decide_eq_true_eq, decide_eq_false_iff_not] at h12
      have hi' : i < L.length := by omega
      obtain ⟨l, hli⟩ : ∃ l, L[i]? = some l := ⟨L[i], by simp [hi']⟩
      have hmi : (L.map ltC)[i]? = some (ltC l) := by rw [List.getElem?_map, hli]; rfl
      have hmem := List.mem_of_getElem? hli
      have hlo := hL l hmem
      have hll := hl2 l hmem
      have hgo := lOkGo_drop (n := n) hli
      rw [hgo] at hv
      refine AWP.skip ?_
      refine hK9 _ ?_
      refine AWP.seqk fun K10 hK10 => ?_
      refine AWP.block ?_
      refine AWP.seqk fun K11 hK11 => ?_
      refine AWP.region (AOPS.all (by simp (disch := first | omega | (simp only [List.length_append, List.length_cons, List.length_nil, List.length_set, List.length_replicate, Int.toNat_natCast]; omega)) [szT25, agT25, elT25, unT25, zoT25, byT25, szT76, agT76, elT76, unT76, zoT76, byT76, szT78, agT78, flT78, zoT78, byT78, fdT78_0, if_pos, idf_Wd', h9, h11, lsA, hmi, ltC, List.length_map]; rfl) ?_)
      refine hK11 _ ?_
      refine AWP.seqk fun K12 hK12 => ?_
      refine AWP.region (AOPS.all (by simp (disch := first | omega | (simp only [List.length_append, List.length_cons, List.length_nil, List.length_set, List.length_replicate, Int.toNat_natCast]; omega)) [szT3, agT3, unT3, zoT3, byT3, szT35, agT35, flT35, zoT35, byT35, szT76, agT76, elT76, unT76, zoT76, byT76, szT78, agT78, flT78, zoT78, byT78, fdT78_0, idf_Wd', h3, List.length_map]; rfl) ?_)
      refine hK12 _ ?_
      refine AWP.seqk fun K13 hK13 => ?_
      by_cases h3l : 3 ≤ l.length
      · have c1 : decide ((l.length : Int) < 3) = false := by simp; omega
        by_cases hnl : n + l.length ≤ 200
        · have c2 : decide ((200 : Int) < (n : Int) + (l.length : Int)) = false := by simp; omega
          have c3 : decide (200 < n + l.length) = false := by simp; omega
          refine AWP.region ?_
          refine AOPS.runk 11 (by simp (disch := first | omega | (simp only [List.length_append, List.length_cons, List.length_nil, List.length_set, List.length_replicate, Int.toNat_natCast]; omega)) [List.take_succ_cons, List.take_zero, szT3, agT3, unT3, zoT3, byT3, szT35, agT35, flT35, zoT35, byT35, szT76, agT76, elT76, unT76, zoT76, byT76, szT78, agT78, flT78, zoT78, byT78, fdT78_0, idf_Wd', c1, c2, c3, List.length_map]; rfl) ?_
          simp only [List.drop_succ_cons, List.drop_zero]
          refine AOPS.fcall (arePoints_fc l hlo hll) rfl rfl rfl hb42 (by simp (disch := first | omega | (simp only [List.length_append, List.length_cons, List.length_nil, List.length_set, List.length_replicate, Int.toNat_natCast]; omega)) [idf_Wd', c1, c2, c3, List.length_map, idf_Wd']) (by simp (disch := first | omega | (simp only [List.length_append, List.length_cons, List.length_nil, List.length_set, List.length_replicate, Int.toNat_natCast]; omega)) [c1, c2, c3, List.length_map]) (by simp) ?_
          simp only [puts_some, updo]
          refine AOPS.all (by simp (disch := first | omega | (simp only [List.length_append, List.length_cons, List.length_nil, List.length_set, List.length_replicate, Int.toNat_natCast]; omega)) [szT3, agT3, unT3, zoT3, byT3, szT35, agT35, flT35, zoT35, byT35, szT76, agT76, elT76, unT76, zoT76, byT76, szT78, agT78, flT78, zoT78, byT78, fdT78_0, idf_Wd', c1, c2, c3, List.length_map]; rfl) ?_
          refine hK13 _ ?_
          refine cond_ok (!(l.all Pt.good)) (by simp (disch := first | omega | (simp only [List.length_append, List.length_cons, List.length_nil, List.length_set, List.length_replicate, Int.toNat_natCast]; omega))) (fun h33 => ?_) (fun h33 => ?_)
          · try simp only [decide_eq_true_eq, decide_eq_false_iff_not] at h33
            have hall : l.all Pt.good = false := by simpa using h33
            refine AWP.seqk fun K14 hK14 => ?_
            refine AWP.region (AOPS.all (by simp (disch := first | omega | (simp only [List.length_append, List.length_cons, List.length_nil, List.length_set, List.length_replicate, Int.toNat_natCast]; omega)) [idf_Wd']; rfl) ?_)
            refine hK14 _ ?_
            refine AWP.ret ?_
            exact hK _ _ _ _ trivial ((Fin.mk (by simp [aRes, aResL, aRes1, idf_Wd']; rfl)).cast (by rw [hv]; simp [h3l, hnl, hall]))
          · try simp only [decide_eq_true_eq, decide_eq_false_iff_not] at h33
            have hall : l.all Pt.good = true := by simpa using h33
            refine AWP.skip ?_
            refine hK10 _ ?_
            refine AWP.region (AOPS.all (by simp (disch := first | omega | (simp only [List.length_append, List.length_cons, List.length_nil, List.length_set, List.length_replicate, Int.toNat_natCast]; omega)) [szT3, agT3, unT3, zoT3, byT3, idf_Wd', h11]; rfl) ?_)
            refine ⟨L.length - (i + 1), by omega, i + 1, n + l.length, rfl, by omega, by omega, by rw [hv]; simp [h3l, hnl, hall], by simp, by simp [h9], by simp [h10], by simp (disch := omega) [h11], rfl⟩
        · have c2 : decide ((200 : Int) < (n : Int) + (l.length : Int)) = true := by simp; omega
          have c3 : decide (200 < n + l.length) = true := by simp; omega
          refine AWP.region (AOPS.all (by simp (disch := first | omega | (simp only [List.length_append, List.length_cons, List.length_nil, List.length_set, List.length_replicate, Int.toNat_natCast]; omega)) [szT3, agT3, unT3, zoT3, byT3, szT35, agT35, flT35, zoT35, byT35, szT76, agT76, elT76, unT76, zoT76, byT76, szT78, agT78, flT78, zoT78, byT78, fdT78_0, idf_Wd', c1, c2, c3, List.length_map]; rfl) ?_)
          refine hK13 _ ?_
          refine cond_ok _ (by simp (disch := first | omega | (simp only [List.length_append, List.length_cons, List.length_nil, List.length_set, List.length_replicate, Int.toNat_natCast]; omega)); rfl) (fun h33 => ?_) (fun h33 => ?_)
          · try simp only [decide_eq_true_eq, decide_eq_false_iff_not] at h33
            refine AWP.seqk fun K15 hK15 => ?_
            refine AWP.region (AOPS.all (by simp (disch := first | omega | (simp only [List.length_append, List.length_cons, List.length_nil, List.length_set, List.length_replicate, Int.toNat_natCast]; omega)) [idf_Wd']; rfl) ?_)
            refine hK15 _ ?_
            refine AWP.ret ?_
            exact hK _ _ _ _ trivial ((Fin.mk (by simp [aRes, aResL, aRes1, idf_Wd']; rfl)).cast (by rw [hv]; simp [h3l, hnl]))
          · simp at h33
      · have c1 : decide ((l.length : Int) < 3) = true := by simp; omega
        refine AWP.region (AOPS.all (by simp (disch := first | omega | (simp only [List.length_append, List.length_cons, List.length_nil, List.length_set, List.length_replicate, Int.toNat_natCast]; omega)) [szT3, agT3, unT3, zoT3, byT3, szT35, agT35, flT35, zoT35, byT35, szT76, agT76, elT76, unT76, zoT76, byT76, szT78, agT78, flT78, zoT78, byT78, fdT78_0, idf_Wd', c1, List.length_map]; rfl) ?_)
        refine hK13 _ ?_
        refine cond_ok _ (by simp (disch := first | omega | (simp only [List.length_append, List.length_cons, List.length_nil, List.length_set, List.length_replicate, Int.toNat_natCast]; omega)); rfl) (fun h33 => ?_) (fun h33 => ?_)
        · try simp only [decide_eq_true_eq, decide_eq_false_iff_not] at h33
          refine AWP.seqk fun K16 hK16 => ?_
          refine AWP.region (AOPS.all (by simp (disch := first | omega | (simp only [List.length_append, List.length_cons, List.length_nil, List.length_set, List.length_replicate, Int.toNat_natCast]; omega)) [idf_Wd']; rfl) ?_)
          refine hK16 _ ?_
          refine AWP.ret ?_
          exact hK _ _ _ _ trivial ((Fin.mk (by simp [aRes, aResL, aRes1, idf_Wd']; rfl)).cast (by rw [hv]; simp [h3l]))
        · simp at h33
    · try simp only [decide_eq_true_eq, decide_eq_false_iff_not] at h12
      have hin : i = L.length := by omega
      rw [hin, lOkGo_end] at hv
      refine AWP.exit ?_
      refine hK6 _ ?_
      refine AWP.seqk fun K17 hK17 => ?_
      refine AWP.region (AOPS.all (by simp (disch := first | omega | (simp only [List.length_append, List.length_cons, List.length_nil, List.length_set, List.length_replicate, Int.toNat_natCast]; omega)) [idf_Wd']; rfl) ?_)
      refine hK17 _ ?_
      refine AWP.ret ?_
      exact hK _ _ _ _ trivial ((Fin.mk (by simp [aRes, aResL, aRes1, idf_Wd']; rfl)).cast (by rw [hv]))

set_option maxHeartbeats 2000000 in
theorem loopsOkS_fc (L : List (List Pt)) (hL : ∀ l ∈ L, ∀ p ∈ l, p.ok) (hl : L.length ≤ 1099511627776) (hl2 : ∀ l ∈ L, l.length ≤ 1099511627776) : FC Try.prog 10 [lsA L] (.bool (lOk L)) := by
  refine FC.body Try.func10 rfl (by simp [idfL, idf, idfLL_iff, lsA, ltC, Pt.cells]) (by simp [idfL, idf, idfLL_iff, idf_Wd']) 54 rfl fun nx K hK => ?_
  refine AWP.seqk fun K1 hK1 => ?_
  refine AWP.region (AOPS.all (by simp (disch := first | omega | (simp only [List.length_append, List.length_cons, List.length_nil, List.length_set, List.length_replicate, Int.toNat_natCast]; omega)) [idf_Wd']; rfl) ?_)
  refine hK1 _ ?_
  refine AWP.seqk fun K2 hK2 => ?_
  refine AWP.seqk fun K3 hK3 => ?_
  refine AWP.region (AOPS.all (by simp (disch := first | omega | (simp only [List.length_append, List.length_cons, List.length_nil, List.length_set, List.length_replicate, Int.toNat_natCast]; omega)) [szT3, agT3, unT3, zoT3, byT3, szT25, agT25, elT25, unT25, zoT25, byT25, szT78, agT78, flT78, zoT78, byT78, idf_Wd', lsA, List.length_map]; rfl) ?_)
  refine hK3 _ ?_
  refine cond_ok _ (by simp (disch := first | omega | (simp only [List.length_append, List.length_cons, List.length_nil, List.length_set, List.length_replicate, Int.toNat_natCast]; omega)); rfl) (fun h8 => ?_) (fun h8 => ?_)
  · try simp only [decide_eq_true_eq, decide_eq_false_iff_not] at h8
    refine AWP.seqk fun K4 hK4 => ?_
    refine AWP.region (AOPS.all (by simp (disch := first | omega | (simp only [List.length_append, List.length_cons, List.length_nil, List.length_set, List.length_replicate, Int.toNat_natCast]; omega)) [idf_Wd']; rfl) ?_)
    refine hK4 _ ?_
    refine AWP.ret ?_
    exact hK _ _ _ _ trivial ((Fin.mk (by simp [aRes, aResL, aRes1, idf_Wd']; rfl)).cast (by simp [lOk, show ¬ L.length ≤ 40 by omega]))
  · try simp only [decide_eq_true_eq, decide_eq_false_iff_not] at h8
    have h40 : L.length ≤ 40 := by omega
    have hv0 : lOk L = lOkGo (L.drop 0) 0 := by simp [lOk, h40]
    refine AWP.skip ?_
    refine hK2 _ ?_
    refine AWP.seqk fun K5 hK5 => ?_
    refine AWP.region (AOPS.all (by simp (disch := first | omega | (simp only [List.length_append, List.length_cons, List.length_nil, List.length_set, List.length_replicate, Int.toNat_natCast]; omega)) [idf_Wd']; rfl) ?_)
    refine hK5 _ ?_
    refine AWP.seqk fun K6 hK6 => ?_
    refine AWP.seqk fun K7 hK7 => ?_
    refine AWP.region (AOPS.all (by simp (disch := first | omega | (simp only [List.length_append, List.length_cons, List.length_nil, List.length_set, List.length_replicate, Int.toNat_natCast]; omega)) [idf_Wd']; rfl) ?_)
    refine hK7 _ ?_
    refine AWP.block ?_
    refine AWP.loop (fun N s => ∃ i n : Nat, N = L.length - i ∧ i ≤ L.length ∧ n ≤ 200 ∧ lOk L = lOkGo (L.drop i) n ∧ s.env 0 = lsA L ∧ s.env 3 = .int .i64 (n : Int) ∧ s.env 4 = .int .i64 (i : Int) ∧ s.nt = 54) (L.length) (⟨0, 0, by omega, by omega, by omega, hv0, by simp [lsA], by simp, by simp, rfl⟩) ?_
    rintro N ⟨e, H, mm, nt⟩ ⟨i, n, rfl, hi, hn, hv, h0, h3, h4, rfl⟩
    simp only [] at h0 h3 h4
    refine AWP.seqk fun K8 hK8 => ?_
    refine AWP.seqk fun K9 hK9 => ?_
    refine AWP.region (AOPS.all (by simp (disch := first | omega | (simp only [List.length_append, List.length_cons, List.length_nil, List.length_set, List.length_replicate, Int.toNat_natCast]; omega)) [szT3, agT3, unT3, zoT3, byT3, szT25, agT25, elT25, unT25, zoT25, byT25, szT78, agT78, flT78, zoT78, byT78, idf_Wd', h0, h4, lsA, List.length_map]; rfl) ?_)
    refine hK9 _ ?_
    refine cond_ok _ (by simp (disch := first | omega | (simp only [List.length_append, List.length_cons, List.length_nil, List.length_set, List.length_replicate, Int.toNat_natCast]; omega)); rfl) (fun h12 => ?_) (fun h12 => ?_)
    · try simp only [decide_eq_true_eq, decide_eq_false_iff_not] at h12
      have hi' : i < L.length := by omega
      obtain ⟨l, hli⟩ : ∃ l, L[i]? = some l := ⟨L[i], by simp [hi']⟩
      have hmi : (L.map ltC)[i]? = some (ltC l) := by rw [List.getElem?_map, hli]; rfl
      have hmem := List.mem_of_getElem? hli
      have hlo := hL l hmem
      have hll := hl2 l hmem
      have hgo := lOkGo_drop (n := n) hli
      rw [hgo] at hv
      refine AWP.skip ?_
      refine hK8 _ ?_
      refine AWP.seqk fun K10 hK10 => ?_
      refine AWP.block ?_
      refine AWP.seqk fun K11 hK11 => ?_
      refine AWP.region (AOPS.all (by simp (disch := first | omega | (simp only [List.length_append, List.length_cons, List.length_nil, List.length_set, List.length_replicate, Int.toNat_natCast]; omega)) [szT3, agT3, unT3, zoT3, byT3, szT25, agT25, elT25, unT25, zoT25, byT25, szT35, agT35, flT35, zoT35, byT35, szT76, agT76, elT76, unT76, zoT76, byT76, szT78, agT78, flT78, zoT78, byT78, fdT78_0, if_pos, idf_Wd', h0, h3, h4, lsA, hmi, ltC, List.length_map]; rfl) ?_)
      refine hK11 _ ?_
      refine AWP.seqk fun K12 hK12 => ?_
      refine AWP.seqk fun K13 hK13 => ?_
      by_cases h3l : 3 ≤ l.length
      · have c1 : decide ((l.length : Int) < 3) = false := by simp; omega
        by_cases hnl : n + l.length ≤ 200
        · have c2 : decide ((200 : Int) < (n : Int) + (l.length : Int)) = false := by simp; omega
          have c3 : decide (200 < n + l.length) = false := by simp; omega
          refine AWP.region (AOPS.all (by simp (disch := first | omega | (simp only [List.length_append, List.length_cons, List.length_nil, List.length_set, List.length_replicate, Int.toNat_natCast]; omega)) [szT3, agT3, unT3, zoT3, byT3, szT25, agT25, elT25, unT25, zoT25, byT25, szT35, agT35, flT35, zoT35, byT35, szT76, agT76, elT76, unT76, zoT76, byT76, szT78, agT78, flT78, zoT78, byT78, fdT78_0, if_pos, idf_Wd', h0, h4, lsA, hmi, ltC, c1, c2, c3, List.length_map]; rfl) ?_)
          refine hK13 _ ?_
          refine cond_ok _ (by simp (disch := first | omega | (simp only [List.length_append, List.length_cons, List.length_nil, List.length_set, List.length_replicate, Int.toNat_natCast]; omega)); rfl) (fun h33 => ?_) (fun h33 => ?_)
          · simp at h33
          · try simp only [decide_eq_true_eq, decide_eq_false_iff_not] at h33
            refine AWP.skip ?_
            refine hK12 _ ?_
            refine AWP.seqk fun K14 hK14 => ?_
            refine AWP.region (AOPS.all (by simp (disch := first | omega | (simp only [List.length_append, List.length_cons, List.length_nil, List.length_set, List.length_replicate, Int.toNat_natCast]; omega)) [idf_Wd']; rfl) ?_)
            refine hK14 _ ?_
            refine AWP.block ?_
            refine AWP.loop (fun N s => ∃ k : Nat, N = l.length - k ∧ k ≤ l.length ∧ (l.take k).all Pt.good = true ∧ s.env 0 = lsA L ∧ s.env 3 = .int .i64 ((n + l.length : Nat) : Int) ∧ s.env 4 = .int .i64 (i : Int) ∧ s.env 5 = .int .i64 (k : Int) ∧ s.nt = 54) (l.length) (⟨0, by omega, by omega, by simp, by simp [h0], by simp (disch := omega), by simp [h4], by simp, rfl⟩) ?_
            clear h0 h3 h4
            rintro N ⟨e, H, mm, nt⟩ ⟨k, rfl, hk, ha, h0, h3, h4, h5, rfl⟩
            simp only [] at h0 h3 h4 h5
            refine AWP.seqk fun K15 hK15 => ?_
            refine AWP.seqk fun K16 hK16 => ?_
            refine AWP.region (AOPS.all (by simp (disch := first | omega | (simp only [List.length_append, List.length_cons, List.length_nil, List.length_set, List.length_replicate, Int.toNat_natCast]; omega)) [szT3, agT3, unT3, zoT3, byT3, szT25, agT25, elT25, unT25, zoT25, byT25, szT35, agT35, flT35, zoT35, byT35, szT76, agT76, elT76, unT76, zoT76, byT76, szT78, agT78, flT78, zoT78, byT78, fdT78_0, if_pos, idf_Wd', h0, h4, h5, lsA, hmi, ltC, List.length_map]; rfl) ?_)
            refine hK16 _ ?_
            refine cond_ok _ (by simp (disch := first | omega | (simp only [List.length_append, List.length_cons, List.length_nil, List.length_set, List.length_replicate, Int.toNat_natCast]; omega)); rfl) (fun h41 => ?_) (fun h41 => ?_)
            · try simp only [decide_eq_true_eq, decide_eq_false_iff_not] at h41
              have hk' : k < l.length := by omega
              obtain ⟨p, hpi⟩ : ∃ p, l[k]? = some p := ⟨l[k], by simp [hk']⟩
              have hpm : (l.map Pt.cells)[k]? = some p.cells := by rw [List.getElem?_map, hpi]; rfl
              have hpo := hlo p (List.mem_of_getElem? hpi)
              refine AWP.skip ?_
              refine hK15 _ ?_
              refine AWP.seqk fun K17 hK17 => ?_
              refine AWP.block ?_
              refine AWP.seqk fun K18 hK18 => ?_
              refine AWP.region ?_
              refine AOPS.runk 8 (by simp (disch := first | omega | (simp only [List.length_append, List.length_cons, List.length_nil, List.length_set, List.length_replicate, Int.toNat_natCast]; omega)) [List.take_succ_cons, List.take_zero, szT25, agT25, elT25, unT25, zoT25, byT25, szT33, agT33, flT33, zoT33, byT33, szT35, agT35, flT35, zoT35, byT35, szT76, agT76, elT76, unT76, zoT76, byT76, szT78, agT78, flT78, zoT78, byT78, fdT35_0, fdT35_1, fdT35_2, fdT78_0, if_pos, idf_Wd', h0, h4, h5, lsA, hmi, ltC, hpm, Pt.av, Pt.cells, List.length_map]; rfl) ?_
              simp only [List.drop_succ_cons, List.drop_zero]
              refine AOPS.fcall (pointOkS_fc p hpo) rfl rfl rfl hb40 (by simp (disch := first | omega | (simp only [List.length_append, List.length_cons, List.length_nil, List.length_set, List.length_replicate, Int.toNat_natCast]; omega)) [idf_Wd', h0, h4, h5, lsA, hmi, ltC, hpm, Pt.av, Pt.cells, List.length_map, idf_Wd']) (by simp (disch := first | omega | (simp only [List.length_append, List.length_cons, List.length_nil, List.length_set, List.length_replicate, Int.toNat_natCast]; omega)) [h0, h4, h5, lsA, hmi, ltC, hpm, Pt.av, Pt.cells, List.length_map]) (by simp) ?_
              simp only [puts_some, updo]
              refine AOPS.all (by simp (disch := first | omega | (simp only [List.length_append, List.length_cons, List.length_nil, List.length_set, List.length_replicate, Int.toNat_natCast]; omega)) [szT25, agT25, elT25, unT25, zoT25, byT25, szT33, agT33, flT33, zoT33, byT33, szT35, agT35, flT35, zoT35, byT35, szT76, agT76, elT76, unT76, zoT76, byT76, szT78, agT78, flT78, zoT78, byT78, fdT35_0, fdT35_1, fdT35_2, fdT78_0, if_pos, idf_Wd', h0, h4, h5, lsA, hmi, ltC, hpm, Pt.av, Pt.cells, List.length_map]; rfl) ?_
              refine hK18 _ ?_
              refine cond_ok (!p.good) (by simp (disch := first | omega | (simp only [List.length_append, List.length_cons, List.length_nil, List.length_set, List.length_replicate, Int.toNat_natCast]; omega))) (fun h53 => ?_) (fun h53 => ?_)
              · try simp only [decide_eq_true_eq, decide_eq_false_iff_not] at h53
                have hbd : p.good = false := by simpa using h53
                refine AWP.seqk fun K19 hK19 => ?_
                refine AWP.region (AOPS.all (by simp (disch := first | omega | (simp only [List.length_append, List.length_cons, List.length_nil, List.length_set, List.length_replicate, Int.toNat_natCast]; omega)) [idf_Wd']; rfl) ?_)
                refine hK19 _ ?_
                refine AWP.ret ?_
                exact hK _ _ _ _ trivial ((Fin.mk (by simp [aRes, aResL, aRes1, idf_Wd']; rfl)).cast (by rw [hv]; simp [all_bad hpi hbd]))
              · try simp only [decide_eq_true_eq, decide_eq_false_iff_not] at h53
                have hgd : p.good = true := by simpa using h53
                refine AWP.skip ?_
                refine hK17 _ ?_
                refine AWP.region (AOPS.all (by simp (disch := first | omega | (simp only [List.length_append, List.length_cons, List.length_nil, List.length_set, List.length_replicate, Int.toNat_natCast]; omega)) [szT3, agT3, unT3, zoT3, byT3, idf_Wd', h5]; rfl) ?_)
                refine ⟨l.length - (k + 1), by omega, k + 1, rfl, by omega, all_take hpi ha hgd, by simp [h0], by simp [h3], by simp [h4], by simp (disch := omega) [h5], rfl⟩
            · try simp only [decide_eq_true_eq, decide_eq_false_iff_not] at h41
              have hkn : k = l.length := by omega
              have hall : l.all Pt.good = true := by rw [hkn, List.take_length] at ha; exact ha
              refine AWP.exit ?_
              refine hK10 _ ?_
              refine AWP.region (AOPS.all (by simp (disch := first | omega | (simp only [List.length_append, List.length_cons, List.length_nil, List.length_set, List.length_replicate, Int.toNat_natCast]; omega)) [szT3, agT3, unT3, zoT3, byT3, idf_Wd', h4]; rfl) ?_)
              refine ⟨L.length - (i + 1), by omega, i + 1, n + l.length, rfl, by omega, by omega, by rw [hv]; simp [h3l, hnl, hall], by simp [h0], by simp [h3], by simp (disch := omega) [h4], rfl⟩
        · have c2 : decide ((200 : Int) < (n : Int) + (l.length : Int)) = true := by simp; omega
          have c3 : decide (200 < n + l.length) = true := by simp; omega
          refine AWP.region (AOPS.all (by simp (disch := first | omega | (simp only [List.length_append, List.length_cons, List.length_nil, List.length_set, List.length_replicate, Int.toNat_natCast]; omega)) [szT3, agT3, unT3, zoT3, byT3, szT25, agT25, elT25, unT25, zoT25, byT25, szT35, agT35, flT35, zoT35, byT35, szT76, agT76, elT76, unT76, zoT76, byT76, szT78, agT78, flT78, zoT78, byT78, fdT78_0, if_pos, idf_Wd', h0, h4, lsA, hmi, ltC, c1, c2, c3, List.length_map]; rfl) ?_)
          refine hK13 _ ?_
          refine cond_ok _ (by simp (disch := first | omega | (simp only [List.length_append, List.length_cons, List.length_nil, List.length_set, List.length_replicate, Int.toNat_natCast]; omega)); rfl) (fun h33 => ?_) (fun h33 => ?_)
          · try simp only [decide_eq_true_eq, decide_eq_false_iff_not] at h33
            refine AWP.seqk fun K20 hK20 => ?_
            refine AWP.region (AOPS.all (by simp (disch := first | omega | (simp only [List.length_append, List.length_cons, List.length_nil, List.length_set, List.length_replicate, Int.toNat_natCast]; omega)) [idf_Wd']; rfl) ?_)
            refine hK20 _ ?_
            refine AWP.ret ?_
            exact hK _ _ _ _ trivial ((Fin.mk (by simp [aRes, aResL, aRes1, idf_Wd']; rfl)).cast (by rw [hv]; simp [h3l, hnl]))
          · simp at h33
      · have c1 : decide ((l.length : Int) < 3) = true := by simp; omega
        refine AWP.region (AOPS.all (by simp (disch := first | omega | (simp only [List.length_append, List.length_cons, List.length_nil, List.length_set, List.length_replicate, Int.toNat_natCast]; omega)) [szT3, agT3, unT3, zoT3, byT3, szT25, agT25, elT25, unT25, zoT25, byT25, szT35, agT35, flT35, zoT35, byT35, szT76, agT76, elT76, unT76, zoT76, byT76, szT78, agT78, flT78, zoT78, byT78, fdT78_0, if_pos, idf_Wd', h0, h4, lsA, hmi, ltC, c1, List.length_map]; rfl) ?_)
        refine hK13 _ ?_
        refine cond_ok _ (by simp (disch := first | omega | (simp only [List.length_append, List.length_cons, List.length_nil, List.length_set, List.length_replicate, Int.toNat_natCast]; omega)); rfl) (fun h33 => ?_) (fun h33 => ?_)
        · try simp only [decide_eq_true_eq, decide_eq_false_iff_not] at h33
          refine AWP.seqk fun K21 hK21 => ?_
          refine AWP.region (AOPS.all (by simp (disch := first | omega | (simp only [List.length_append, List.length_cons, List.length_nil, List.length_set, List.length_replicate, Int.toNat_natCast]; omega)) [idf_Wd']; rfl) ?_)
          refine hK21 _ ?_
          refine AWP.ret ?_
          exact hK _ _ _ _ trivial ((Fin.mk (by simp [aRes, aResL, aRes1, idf_Wd']; rfl)).cast (by rw [hv]; simp [h3l]))
        · simp at h33
    · try simp only [decide_eq_true_eq, decide_eq_false_iff_not] at h12
      have hin : i = L.length := by omega
      rw [hin, lOkGo_end] at hv
      refine AWP.exit ?_
      refine hK6 _ ?_
      refine AWP.seqk fun K22 hK22 => ?_
      refine AWP.region (AOPS.all (by simp (disch := first | omega | (simp only [List.length_append, List.length_cons, List.length_nil, List.length_set, List.length_replicate, Int.toNat_natCast]; omega)) [idf_Wd']; rfl) ?_)
      refine hK22 _ ?_
      refine AWP.ret ?_
      exact hK _ _ _ _ trivial ((Fin.mk (by simp [aRes, aResL, aRes1, idf_Wd']; rfl)).cast (by rw [hv]))

end Go.Proofs.Ytdcggmbnjonemaa

/- Walks: the laws' own functions over loops. -/
namespace Go.Proofs.Ytdcggmbnjonemaa
open Go Go.RowKit
set_option linter.unusedSimpArgs false
set_option linter.unusedVariables false
set_option maxRecDepth 100000
attribute [local simp] List.getElem?_cons_zero List.getElem?_cons_succ List.getElem?_toArray runOps stepOp.eq_def agd.eq_def dstOk.eq_def opVal.eq_def opNew.eq_def opSto.eq_def ev.eq_def cv.eq_def puts_some puts_none upd_ap lst.eq_def aBin.eq_def aUn.eq_def aBi_str aBi_isl aBi_osl aBi_nsl aBi_max aBi_min aBi_max3 aConv.eq_def aLd.eq_def aLoad.eq_def aField.eq_def aFld.eq_def aIdx_isl aIdx_osl aSlc_isl aSlc_osl aSlc_str aSlc_nsl bnd.eq_def evs_nil evs_cons aBuild.eq_def aFill splice.eq_def cells_agg cells_int cells_bool cells_str cells_nil cells_nsl cells_isl cells_osl cells_ptr cells_ip cells_fn cells_Wd one_int one_bool one_str one_nil one_nsl one_isl one_osl one_ptr one_ip one_fn one_Wd aSets hupd_eq hupd_ne wrap_i64s wrap_u64s wrap_u32s wrap_u8s wd_getD wd_set wd_len wd_replicate wd_one wd_fold fz_osl hupd_same aSix.eq_def aEqS.eq_def aEqB_bool aEqB_nsl aEqB_nil

theorem szPointS_fc (l : List Pt) (n : Int) (h0 : -1 ≤ n) (h1 : n ≤ 1048576) (hl : l.length ≤ 9223372036854775807) : FC Try.prog 84 [.isl (l.map Pt.cells), .int .i64 n] (.int .i64 (szF l n)) := by
  refine FC.body Try.func84 rfl (by simp [idfL, idf, idfLL_iff, Pt.cells]) (by simp [idfL, idf, idfLL_iff, idf_Wd']) 12 rfl fun nx K hK => ?_
  refine AWP.seqk fun K1 hK1 => ?_
  refine AWP.region (AOPS.all (by simp (disch := first | omega | (simp only [List.length_append, List.length_cons, List.length_nil, List.length_set, List.length_replicate, Int.toNat_natCast]; omega)) [idf_Wd']; rfl) ?_)
  refine hK1 _ ?_
  refine AWP.seqk fun K2 hK2 => ?_
  refine AWP.region (AOPS.all (by simp (disch := first | omega | (simp only [List.length_append, List.length_cons, List.length_nil, List.length_set, List.length_replicate, Int.toNat_natCast]; omega)) [szT3, agT3, unT3, zoT3, byT3, szT68, agT68, flT68, zoT68, byT68, szT73, agT73, elT73, unT73, zoT73, byT73, idf_Wd', List.length_map]; rfl) ?_)
  refine hK2 _ ?_
  refine AWP.seqk fun K3 hK3 => ?_
  refine AWP.seqk fun K4 hK4 => ?_
  refine AWP.region (AOPS.all (by simp (disch := first | omega | (simp only [List.length_append, List.length_cons, List.length_nil, List.length_set, List.length_replicate, Int.toNat_natCast]; omega)) [szT3, agT3, unT3, zoT3, byT3, idf_Wd']; rfl) ?_)
  refine hK4 _ ?_
  refine cond_ok _ (by simp (disch := first | omega | (simp only [List.length_append, List.length_cons, List.length_nil, List.length_set, List.length_replicate, Int.toNat_natCast]; omega)); rfl) (fun h10 => ?_) (fun h10 => ?_)
  · try simp only [decide_eq_true_eq, decide_eq_false_iff_not] at h10
    refine AWP.seqk fun K5 hK5 => ?_
    refine AWP.region (AOPS.all (by simp (disch := first | omega | (simp only [List.length_append, List.length_cons, List.length_nil, List.length_set, List.length_replicate, Int.toNat_natCast]; omega)) [idf_Wd']; rfl) ?_)
    refine hK5 _ ?_
    refine AWP.ret ?_
    exact hK _ _ _ _ trivial ((Fin.mk (by simp [aRes, aResL, aRes1, idf_Wd']; rfl)).cast (by unfold szF; rw [if_pos (by omega)]))
  · try simp only [decide_eq_true_eq, decide_eq_false_iff_not] at h10
    refine AWP.skip ?_
    refine hK3 _ ?_
    refine AWP.seqk fun K6 hK6 => ?_
    refine AWP.region (AOPS.all (by simp (disch := first | omega | (simp only [List.length_append, List.length_cons, List.length_nil, List.length_set, List.length_replicate, Int.toNat_natCast]; omega)) [idf_Wd']; rfl) ?_)
    refine hK6 _ ?_
    refine AWP.ret ?_
    exact hK _ _ _ _ trivial ((Fin.mk (by simp [aRes, aResL, aRes1, idf_Wd']; rfl)).cast (by unfold szF; rw [if_neg (by omega)]))

theorem szLoop_fc (l : List Pt) (n : Int) (h0 : -1 ≤ n) (h1 : n ≤ 1048576) (hl : l.length ≤ 9223372036854775807) : FC Try.prog 39 [.agg (ltC l), .int .i64 n] (.int .i64 (szF l n)) := by
  refine FC.body Try.func39 rfl (by simp [idfL, idf, idfLL_iff, ltC, Pt.cells]) (by simp [idfL, idf, idfLL_iff, idf_Wd', ltC]) 12 rfl fun nx K hK => ?_
  refine AWP.seqk fun K1 hK1 => ?_
  refine AWP.region (AOPS.all (by simp (disch := first | omega | (simp only [List.length_append, List.length_cons, List.length_nil, List.length_set, List.length_replicate, Int.toNat_natCast]; omega)) [szT73, agT73, elT73, unT73, zoT73, byT73, szT75, agT75, flT75, zoT75, byT75, fdT75_0, idf_Wd', ltC]; rfl) ?_)
  refine hK1 _ ?_
  refine AWP.seqk fun K2 hK2 => ?_
  refine AWP.region ?_
  refine AOPS.runk 3 (by simp (disch := first | omega | (simp only [List.length_append, List.length_cons, List.length_nil, List.length_set, List.length_replicate, Int.toNat_natCast]; omega)) [List.take_succ_cons, List.take_zero, szT68, agT68, flT68, zoT68, byT68, szT73, agT73, elT73, unT73, zoT73, byT73, szT75, agT75, flT75, zoT75, byT75, fdT75_0, idf_Wd', ltC]; rfl) ?_
  simp only [List.drop_succ_cons, List.drop_zero]
  refine AOPS.fcall (szPointS_fc l n h0 h1 hl) rfl rfl rfl hb84 (by simp (disch := first | omega | (simp only [List.length_append, List.length_cons, List.length_nil, List.length_set, List.length_replicate, Int.toNat_natCast]; omega)) [idf_Wd', idf_Wd', ltC]) (by simp (disch := first | omega | (simp only [List.length_append, List.length_cons, List.length_nil, List.length_set, List.length_replicate, Int.toNat_natCast]; omega))) (by simp) ?_
  simp only [puts_some, updo]
  refine AOPS.all (by simp (disch := first | omega | (simp only [List.length_append, List.length_cons, List.length_nil, List.length_set, List.length_replicate, Int.toNat_natCast]; omega)) [szT68, agT68, flT68, zoT68, byT68, szT73, agT73, elT73, unT73, zoT73, byT73, szT75, agT75, flT75, zoT75, byT75, fdT75_0, idf_Wd', ltC]; rfl) ?_
  refine hK2 _ ?_
  refine AWP.seqk fun K3 hK3 => ?_
  refine AWP.seqk fun K4 hK4 => ?_
  refine AWP.region (AOPS.all (by simp (disch := first | omega | (simp only [List.length_append, List.length_cons, List.length_nil, List.length_set, List.length_replicate, Int.toNat_natCast]; omega)) [szT3, agT3, unT3, zoT3, byT3, idf_Wd', ltC]; rfl) ?_)
  refine hK4 _ ?_
  refine cond_ok _ (by simp (disch := first | omega | (simp only [List.length_append, List.length_cons, List.length_nil, List.length_set, List.length_replicate, Int.toNat_natCast]; omega)); rfl) (fun h10 => ?_) (fun h10 => ?_)
  · try simp only [decide_eq_true_eq, decide_eq_false_iff_not] at h10
    refine AWP.seqk fun K5 hK5 => ?_
    refine AWP.region (AOPS.all (by simp (disch := first | omega | (simp only [List.length_append, List.length_cons, List.length_nil, List.length_set, List.length_replicate, Int.toNat_natCast]; omega)) [idf_Wd', ltC]; rfl) ?_)
    refine hK5 _ ?_
    refine AWP.ret ?_
    exact hK _ _ _ _ trivial ((Fin.mk (by simp [aRes, aResL, aRes1, idf_Wd', ltC]; rfl)).cast (by unfold szF at *; split <;> simp_all; try omega))
  · try simp only [decide_eq_true_eq, decide_eq_false_iff_not] at h10
    refine AWP.skip ?_
    refine hK3 _ ?_
    refine AWP.seqk fun K6 hK6 => ?_
    refine AWP.region (AOPS.all (by simp (disch := first | omega | (simp only [List.length_append, List.length_cons, List.length_nil, List.length_set, List.length_replicate, Int.toNat_natCast]; omega)) [idf_Wd', ltC]; rfl) ?_)
    refine hK6 _ ?_
    refine AWP.ret ?_
    exact hK _ _ _ _ trivial (Fin.mk (by simp [aRes, aResL, aRes1, idf_Wd', ltC]))

set_option maxHeartbeats 1000000 in
theorem szLoopS_fc (L : List (List Pt)) (hl : L.length ≤ 9223372036854775807) (hl2 : ∀ l ∈ L, l.length ≤ 9223372036854775807) : FC Try.prog 9 [lsA L, .int .i64 1048576] (.int .i64 (szA L 1048576)) := by
  refine FC.body Try.func9 rfl (by simp [idfL, idf, idfLL_iff, lsA, ltC, Pt.cells]) (by simp [idfL, idf, idfLL_iff, idf_Wd']) 27 rfl fun nx K hK => ?_
  refine AWP.seqk fun K1 hK1 => ?_
  refine AWP.region (AOPS.all (by simp (disch := first | omega | (simp only [List.length_append, List.length_cons, List.length_nil, List.length_set, List.length_replicate, Int.toNat_natCast]; omega)) [idf_Wd']; rfl) ?_)
  refine hK1 _ ?_
  refine AWP.seqk fun K2 hK2 => ?_
  refine AWP.region (AOPS.all (by simp (disch := first | omega | (simp only [List.length_append, List.length_cons, List.length_nil, List.length_set, List.length_replicate, Int.toNat_natCast]; omega)) [szT3, agT3, unT3, zoT3, byT3, szT22, agT22, elT22, unT22, zoT22, byT22, szT75, agT75, flT75, zoT75, byT75, idf_Wd', lsA, List.length_map]; rfl) ?_)
  refine hK2 _ ?_
  refine AWP.seqk fun K3 hK3 => ?_
  refine AWP.seqk fun K4 hK4 => ?_
  refine AWP.region (AOPS.all (by simp (disch := first | omega | (simp only [List.length_append, List.length_cons, List.length_nil, List.length_set, List.length_replicate, Int.toNat_natCast]; omega)) [szT3, agT3, unT3, zoT3, byT3, idf_Wd']; rfl) ?_)
  refine hK4 _ ?_
  refine cond_ok _ (by simp (disch := first | omega | (simp only [List.length_append, List.length_cons, List.length_nil, List.length_set, List.length_replicate, Int.toNat_natCast]; omega)); rfl) (fun h11 => ?_) (fun h11 => ?_)
  · try simp only [decide_eq_true_eq, decide_eq_false_iff_not] at h11
    refine AWP.seqk fun K5 hK5 => ?_
    refine AWP.region (AOPS.all (by simp (disch := first | omega | (simp only [List.length_append, List.length_cons, List.length_nil, List.length_set, List.length_replicate, Int.toNat_natCast]; omega)) [idf_Wd']; rfl) ?_)
    refine hK5 _ ?_
    refine AWP.ret ?_
    exact hK _ _ _ _ trivial ((Fin.mk (by simp [aRes, aResL, aRes1, idf_Wd']; rfl)).cast (by unfold szA; rw [if_pos (by omega)]))
  · try simp only [decide_eq_true_eq, decide_eq_false_iff_not] at h11
    have hv0 : szA L 1048576 = szGo (L.drop 0) (1048576 - (L.length : Int)) := by unfold szA; rw [if_neg (by omega), List.drop_zero]
    refine AWP.skip ?_
    refine hK3 _ ?_
    refine AWP.seqk fun K6 hK6 => ?_
    refine AWP.seqk fun K7 hK7 => ?_
    refine AWP.region (AOPS.all (by simp (disch := first | omega | (simp only [List.length_append, List.length_cons, List.length_nil, List.length_set, List.length_replicate, Int.toNat_natCast]; omega)) [idf_Wd']; rfl) ?_)
    refine hK7 _ ?_
    refine AWP.block ?_
    refine AWP.loop (fun N s => ∃ (i : Nat) (n : Int), N = L.length - i ∧ i ≤ L.length ∧ 0 ≤ n ∧ n ≤ 1048576 ∧ szA L 1048576 = szGo (L.drop i) n ∧ s.env 0 = lsA L ∧ s.env 1 = .int .i64 n ∧ s.env 5 = .int .i64 (i : Int) ∧ s.nt = 27) (L.length) (⟨0, 1048576 - (L.length : Int), by omega, by omega, by omega, by omega, hv0, by simp [lsA], by simp, by simp, rfl⟩) ?_
    rintro N ⟨e, H, mm, nt⟩ ⟨i, n, rfl, hi, hn0, hn1, hv, h0, h1, h5, rfl⟩
    simp only [] at h0 h1 h5
    refine AWP.seqk fun K8 hK8 => ?_
    refine AWP.seqk fun K9 hK9 => ?_
    refine AWP.region (AOPS.all (by simp (disch := first | omega | (simp only [List.length_append, List.length_cons, List.length_nil, List.length_set, List.length_replicate, Int.toNat_natCast]; omega)) [szT3, agT3, unT3, zoT3, byT3, szT22, agT22, elT22, unT22, zoT22, byT22, szT75, agT75, flT75, zoT75, byT75, idf_Wd', h0, h5, lsA, List.length_map]; rfl) ?_)
    refine hK9 _ ?_
    refine cond_ok _ (by simp (disch := first | omega | (simp only [List.length_append, List.length_cons, List.length_nil, List.length_set, List.length_replicate, Int.toNat_natCast]; omega)); rfl) (fun h15 => ?_) (fun h15 => ?_)
    · try simp only [decide_eq_true_eq, decide_eq_false_iff_not] at h15
      have hi' : i < L.length := by omega
      obtain ⟨l, hli⟩ : ∃ l, L[i]? = some l := ⟨L[i], by simp [hi']⟩
      have hmi : (L.map ltC)[i]? = some (ltC l) := by rw [List.getElem?_map, hli]; rfl
      have hmem := List.mem_of_getElem? hli
      have hll := hl2 l hmem
      rw [szGo_drop hli] at hv
      refine AWP.skip ?_
      refine hK8 _ ?_
      refine AWP.seqk fun K10 hK10 => ?_
      refine AWP.block ?_
      refine AWP.seqk fun K11 hK11 => ?_
      refine AWP.region ?_
      refine AOPS.runk 5 (by simp (disch := first | omega | (simp only [List.length_append, List.length_cons, List.length_nil, List.length_set, List.length_replicate, Int.toNat_natCast]; omega)) [List.take_succ_cons, List.take_zero, szT22, agT22, elT22, unT22, zoT22, byT22, szT73, agT73, elT73, unT73, zoT73, byT73, szT75, agT75, flT75, zoT75, byT75, fdT75_0, if_pos, idf_Wd', h0, h1, h5, lsA, hmi, ltC, List.length_map]; rfl) ?_
      simp only [List.drop_succ_cons, List.drop_zero]
      refine AOPS.fcall (szLoop_fc l n (by omega) hn1 hll) rfl rfl rfl hb39 (by simp (disch := first | omega | (simp only [List.length_append, List.length_cons, List.length_nil, List.length_set, List.length_replicate, Int.toNat_natCast]; omega)) [idf_Wd', h0, h1, h5, lsA, hmi, ltC, List.length_map, idf_Wd']) (by simp (disch := first | omega | (simp only [List.length_append, List.length_cons, List.length_nil, List.length_set, List.length_replicate, Int.toNat_natCast]; omega)) [h0, h1, h5, lsA, hmi, ltC, List.length_map]) (by simp) ?_
      simp only [puts_some, updo]
      refine AOPS.all (by simp (disch := first | omega | (simp only [List.length_append, List.length_cons, List.length_nil, List.length_set, List.length_replicate, Int.toNat_natCast]; omega)) [szT22, agT22, elT22, unT22, zoT22, byT22, szT73, agT73, elT73, unT73, zoT73, byT73, szT75, agT75, flT75, zoT75, byT75, fdT75_0, if_pos, idf_Wd', h0, h1, h5, lsA, hmi, ltC, List.length_map]; rfl) ?_
      refine hK11 _ ?_
      refine AWP.seqk fun K12 hK12 => ?_
      refine AWP.region (AOPS.all (by simp (disch := first | omega | (simp only [List.length_append, List.length_cons, List.length_nil, List.length_set, List.length_replicate, Int.toNat_natCast]; omega)) [szT3, agT3, unT3, zoT3, byT3, idf_Wd']; rfl) ?_)
      refine hK12 _ ?_
      refine cond_ok _ (by simp (disch := first | omega | (simp only [List.length_append, List.length_cons, List.length_nil, List.length_set, List.length_replicate, Int.toNat_natCast]; omega)); rfl) (fun h25 => ?_) (fun h25 => ?_)
      · try simp only [decide_eq_true_eq, decide_eq_false_iff_not] at h25
        have hng : n - (l.length : Int) < 0 := by
          unfold szF at h25
          split at h25
          · assumption
          · omega
        refine AWP.seqk fun K13 hK13 => ?_
        refine AWP.region (AOPS.all (by simp (disch := first | omega | (simp only [List.length_append, List.length_cons, List.length_nil, List.length_set, List.length_replicate, Int.toNat_natCast]; omega)) [idf_Wd']; rfl) ?_)
        refine hK13 _ ?_
        refine AWP.ret ?_
        exact hK _ _ _ _ trivial ((Fin.mk (by simp [aRes, aResL, aRes1, idf_Wd']; rfl)).cast (by rw [hv, if_pos hng]))
      · try simp only [decide_eq_true_eq, decide_eq_false_iff_not] at h25
        have hng : ¬ n - (l.length : Int) < 0 := fun h => by
          unfold szF at h25
          rw [if_pos h] at h25; omega
        refine AWP.skip ?_
        refine hK10 _ ?_
        refine AWP.region (AOPS.all (by simp (disch := first | omega | (simp only [List.length_append, List.length_cons, List.length_nil, List.length_set, List.length_replicate, Int.toNat_natCast]; omega)) [szT3, agT3, unT3, zoT3, byT3, idf_Wd', h5]; rfl) ?_)
        refine ⟨L.length - (i + 1), by omega, i + 1, n - (l.length : Int), rfl, by omega, by omega, by omega, by rw [hv, if_neg hng], by simp [h0], by simp [szF, hng], by simp (disch := omega) [h5], rfl⟩
    · try simp only [decide_eq_true_eq, decide_eq_false_iff_not] at h15
      have hin : i = L.length := by omega
      rw [hin, szGo_end] at hv
      refine AWP.exit ?_
      refine hK6 _ ?_
      refine AWP.seqk fun K14 hK14 => ?_
      refine AWP.region (AOPS.all (by simp (disch := first | omega | (simp only [List.length_append, List.length_cons, List.length_nil, List.length_set, List.length_replicate, Int.toNat_natCast]; omega)) [idf_Wd', h1]; rfl) ?_)
      refine hK14 _ ?_
      refine AWP.ret ?_
      exact hK _ _ _ _ trivial ((Fin.mk (by simp [aRes, aResL, aRes1, idf_Wd']; rfl)).cast (by rw [hv]))

theorem toWide_fc (x : W4) : FC Try.prog 80 [.agg [.int .u64 x.a, .int .u64 x.b, .int .u64 x.c, .int .u64 x.d]] (.agg [.int .u64 x.a, .int .u64 x.b, .int .u64 x.c, .int .u64 x.d]) := by
  refine FC.body Try.func80 rfl (by simp [idfL, idf, idfLL_iff, idf_Wd']) (by simp [idfL, idf, idfLL_iff, idf_Wd']) 17 rfl fun nx K hK => ?_
  refine AWP.seqk fun K1 hK1 => ?_
  refine AWP.region (AOPS.all (by simp (disch := first | omega | (simp only [List.length_append, List.length_cons, List.length_nil, List.length_set, List.length_replicate, Int.toNat_natCast]; omega)) [szT31, agT31, unT31, zoT31, byT31, szT33, agT33, flT33, zoT33, byT33, szT66, agT66, flT66, zoT66, byT66, fdT33_0, fdT33_1, fdT33_2, fdT33_3, fdT66_0, fdT66_1, fdT66_2, fdT66_3, idf_Wd']; rfl) ?_)
  refine hK1 _ ?_
  refine AWP.seqk fun K2 hK2 => ?_
  refine AWP.region (AOPS.all (by simp (disch := first | omega | (simp only [List.length_append, List.length_cons, List.length_nil, List.length_set, List.length_replicate, Int.toNat_natCast]; omega)) [szT31, agT31, unT31, zoT31, byT31, szT33, agT33, flT33, zoT33, byT33, fdT33_0, fdT33_1, fdT33_2, fdT33_3, idf_Wd']; rfl) ?_)
  refine hK2 _ ?_
  refine AWP.seqk fun K3 hK3 => ?_
  refine AWP.region (AOPS.all (by simp (disch := first | omega | (simp only [List.length_append, List.length_cons, List.length_nil, List.length_set, List.length_replicate, Int.toNat_natCast]; omega)) [szT31, agT31, unT31, zoT31, byT31, szT33, agT33, flT33, zoT33, byT33, szT66, agT66, flT66, zoT66, byT66, fdT33_0, fdT33_1, fdT33_2, fdT33_3, fdT66_0, fdT66_1, fdT66_2, fdT66_3, idf_Wd']; rfl) ?_)
  refine hK3 _ ?_
  refine AWP.seqk fun K4 hK4 => ?_
  refine AWP.region (AOPS.all (by simp (disch := first | omega | (simp only [List.length_append, List.length_cons, List.length_nil, List.length_set, List.length_replicate, Int.toNat_natCast]; omega)) [szT31, agT31, unT31, zoT31, byT31, szT33, agT33, flT33, zoT33, byT33, szT66, agT66, flT66, zoT66, byT66, fdT33_0, fdT33_1, fdT33_2, fdT33_3, fdT66_0, fdT66_1, fdT66_2, fdT66_3, idf_Wd']; rfl) ?_)
  refine hK4 _ ?_
  refine AWP.seqk fun K5 hK5 => ?_
  refine AWP.region (AOPS.all (by simp (disch := first | omega | (simp only [List.length_append, List.length_cons, List.length_nil, List.length_set, List.length_replicate, Int.toNat_natCast]; omega)) [szT31, agT31, unT31, zoT31, byT31, szT33, agT33, flT33, zoT33, byT33, szT66, agT66, flT66, zoT66, byT66, fdT33_0, fdT33_1, fdT33_2, fdT33_3, fdT66_0, fdT66_1, fdT66_2, fdT66_3, idf_Wd']; rfl) ?_)
  refine hK5 _ ?_
  refine AWP.seqk fun K6 hK6 => ?_
  refine AWP.region (AOPS.all (by simp (disch := first | omega | (simp only [List.length_append, List.length_cons, List.length_nil, List.length_set, List.length_replicate, Int.toNat_natCast]; omega)) [szT31, agT31, unT31, zoT31, byT31, szT33, agT33, flT33, zoT33, byT33, szT66, agT66, flT66, zoT66, byT66, fdT33_0, fdT33_1, fdT33_2, fdT33_3, fdT66_0, fdT66_1, fdT66_2, fdT66_3, idf_Wd']; rfl) ?_)
  refine hK6 _ ?_
  refine AWP.seqk fun K7 hK7 => ?_
  refine AWP.region (AOPS.all (by simp (disch := first | omega | (simp only [List.length_append, List.length_cons, List.length_nil, List.length_set, List.length_replicate, Int.toNat_natCast]; omega)) [szT31, agT31, unT31, zoT31, byT31, szT33, agT33, flT33, zoT33, byT33, fdT33_0, fdT33_1, fdT33_2, fdT33_3, idf_Wd']; rfl) ?_)
  refine hK7 _ ?_
  refine AWP.ret ?_
  exact hK _ _ _ _ trivial (Fin.mk (by simp [aRes, aResL, aRes1, szT33, agT33, idf_Wd']))

set_option maxHeartbeats 1000000 in
theorem toPoint_fc (p : Pt) : FC Try.prog 37 [.agg p.cells] (.agg p.cells) := by
  refine FC.body Try.func37 rfl (by simp [idfL, idf, idfLL_iff, idf_Wd', Pt.cells]) (by simp [idfL, idf, idfLL_iff, idf_Wd', Pt.cells]) 17 rfl fun nx K hK => ?_
  refine AWP.seqk fun K1 hK1 => ?_
  refine AWP.region (AOPS.all (by simp (disch := first | omega | (simp only [List.length_append, List.length_cons, List.length_nil, List.length_set, List.length_replicate, Int.toNat_natCast]; omega)) [szT33, agT33, flT33, zoT33, byT33, szT35, agT35, flT35, zoT35, byT35, szT66, agT66, flT66, zoT66, byT66, szT68, agT68, flT68, zoT68, byT68, fdT35_0, fdT35_1, fdT35_2, fdT68_0, fdT68_1, fdT68_2, idf_Wd', Pt.cells]; rfl) ?_)
  refine hK1 _ ?_
  refine AWP.seqk fun K2 hK2 => ?_
  refine AWP.region (AOPS.all (by simp (disch := first | omega | (simp only [List.length_append, List.length_cons, List.length_nil, List.length_set, List.length_replicate, Int.toNat_natCast]; omega)) [szT33, agT33, flT33, zoT33, byT33, szT35, agT35, flT35, zoT35, byT35, fdT35_0, fdT35_1, fdT35_2, idf_Wd', Pt.cells]; rfl) ?_)
  refine hK2 _ ?_
  refine AWP.seqk fun K3 hK3 => ?_
  refine AWP.region ?_
  refine AOPS.runk 2 (by simp (disch := first | omega | (simp only [List.length_append, List.length_cons, List.length_nil, List.length_set, List.length_replicate, Int.toNat_natCast]; omega)) [List.take_succ_cons, List.take_zero, szT31, agT31, unT31, zoT31, byT31, szT33, agT33, flT33, zoT33, byT33, szT35, agT35, flT35, zoT35, byT35, szT66, agT66, flT66, zoT66, byT66, szT68, agT68, flT68, zoT68, byT68, fdT33_0, fdT33_1, fdT33_2, fdT33_3, fdT35_0, fdT35_1, fdT35_2, fdT66_0, fdT66_1, fdT66_2, fdT66_3, fdT68_0, fdT68_1, fdT68_2, idf_Wd', Pt.cells]; rfl) ?_
  simp only [List.drop_succ_cons, List.drop_zero]
  refine AOPS.fcall (toWide_fc p.x) rfl rfl rfl hb80 (by simp (disch := first | omega | (simp only [List.length_append, List.length_cons, List.length_nil, List.length_set, List.length_replicate, Int.toNat_natCast]; omega)) [idf_Wd', idf_Wd', Pt.cells]) (by simp (disch := first | omega | (simp only [List.length_append, List.length_cons, List.length_nil, List.length_set, List.length_replicate, Int.toNat_natCast]; omega))) (by simp) ?_
  simp only [puts_some, updo]
  refine AOPS.all (by simp (disch := first | omega | (simp only [List.length_append, List.length_cons, List.length_nil, List.length_set, List.length_replicate, Int.toNat_natCast]; omega)) [szT31, agT31, unT31, zoT31, byT31, szT33, agT33, flT33, zoT33, byT33, szT35, agT35, flT35, zoT35, byT35, szT66, agT66, flT66, zoT66, byT66, szT68, agT68, flT68, zoT68, byT68, fdT33_0, fdT33_1, fdT33_2, fdT33_3, fdT35_0, fdT35_1, fdT35_2, fdT66_0, fdT66_1, fdT66_2, fdT66_3, fdT68_0, fdT68_1, fdT68_2, idf_Wd', Pt.cells]; rfl) ?_
  refine hK3 _ ?_
  refine AWP.seqk fun K4 hK4 => ?_
  refine AWP.region ?_
  refine AOPS.runk 2 (by simp (disch := first | omega | (simp only [List.length_append, List.length_cons, List.length_nil, List.length_set, List.length_replicate, Int.toNat_natCast]; omega)) [List.take_succ_cons, List.take_zero, szT31, agT31, unT31, zoT31, byT31, szT33, agT33, flT33, zoT33, byT33, szT35, agT35, flT35, zoT35, byT35, szT66, agT66, flT66, zoT66, byT66, szT68, agT68, flT68, zoT68, byT68, fdT33_0, fdT33_1, fdT33_2, fdT33_3, fdT35_0, fdT35_1, fdT35_2, fdT66_0, fdT66_1, fdT66_2, fdT66_3, fdT68_0, fdT68_1, fdT68_2, idf_Wd', Pt.cells]; rfl) ?_
  simp only [List.drop_succ_cons, List.drop_zero]
  refine AOPS.fcall (toWide_fc p.y) rfl rfl rfl hb80 (by simp (disch := first | omega | (simp only [List.length_append, List.length_cons, List.length_nil, List.length_set, List.length_replicate, Int.toNat_natCast]; omega)) [idf_Wd', idf_Wd', Pt.cells]) (by simp (disch := first | omega | (simp only [List.length_append, List.length_cons, List.length_nil, List.length_set, List.length_replicate, Int.toNat_natCast]; omega))) (by simp) ?_
  simp only [puts_some, updo]
  refine AOPS.all (by simp (disch := first | omega | (simp only [List.length_append, List.length_cons, List.length_nil, List.length_set, List.length_replicate, Int.toNat_natCast]; omega)) [szT31, agT31, unT31, zoT31, byT31, szT33, agT33, flT33, zoT33, byT33, szT35, agT35, flT35, zoT35, byT35, szT66, agT66, flT66, zoT66, byT66, szT68, agT68, flT68, zoT68, byT68, fdT33_0, fdT33_1, fdT33_2, fdT33_3, fdT35_0, fdT35_1, fdT35_2, fdT66_0, fdT66_1, fdT66_2, fdT66_3, fdT68_0, fdT68_1, fdT68_2, idf_Wd', Pt.cells]; rfl) ?_
  refine hK4 _ ?_
  refine AWP.seqk fun K5 hK5 => ?_
  refine AWP.region ?_
  refine AOPS.runk 2 (by simp (disch := first | omega | (simp only [List.length_append, List.length_cons, List.length_nil, List.length_set, List.length_replicate, Int.toNat_natCast]; omega)) [List.take_succ_cons, List.take_zero, szT31, agT31, unT31, zoT31, byT31, szT33, agT33, flT33, zoT33, byT33, szT35, agT35, flT35, zoT35, byT35, szT66, agT66, flT66, zoT66, byT66, szT68, agT68, flT68, zoT68, byT68, fdT33_0, fdT33_1, fdT33_2, fdT33_3, fdT35_0, fdT35_1, fdT35_2, fdT66_0, fdT66_1, fdT66_2, fdT66_3, fdT68_0, fdT68_1, fdT68_2, idf_Wd', Pt.cells]; rfl) ?_
  simp only [List.drop_succ_cons, List.drop_zero]
  refine AOPS.fcall (toWide_fc p.w) rfl rfl rfl hb80 (by simp (disch := first | omega | (simp only [List.length_append, List.length_cons, List.length_nil, List.length_set, List.length_replicate, Int.toNat_natCast]; omega)) [idf_Wd', idf_Wd', Pt.cells]) (by simp (disch := first | omega | (simp only [List.length_append, List.length_cons, List.length_nil, List.length_set, List.length_replicate, Int.toNat_natCast]; omega))) (by simp) ?_
  simp only [puts_some, updo]
  refine AOPS.all (by simp (disch := first | omega | (simp only [List.length_append, List.length_cons, List.length_nil, List.length_set, List.length_replicate, Int.toNat_natCast]; omega)) [szT31, agT31, unT31, zoT31, byT31, szT33, agT33, flT33, zoT33, byT33, szT35, agT35, flT35, zoT35, byT35, szT66, agT66, flT66, zoT66, byT66, szT68, agT68, flT68, zoT68, byT68, fdT33_0, fdT33_1, fdT33_2, fdT33_3, fdT35_0, fdT35_1, fdT35_2, fdT66_0, fdT66_1, fdT66_2, fdT66_3, fdT68_0, fdT68_1, fdT68_2, idf_Wd', Pt.cells]; rfl) ?_
  refine hK5 _ ?_
  refine AWP.seqk fun K6 hK6 => ?_
  refine AWP.region (AOPS.all (by simp (disch := first | omega | (simp only [List.length_append, List.length_cons, List.length_nil, List.length_set, List.length_replicate, Int.toNat_natCast]; omega)) [szT33, agT33, flT33, zoT33, byT33, szT35, agT35, flT35, zoT35, byT35, fdT35_0, fdT35_1, fdT35_2, idf_Wd', Pt.cells]; rfl) ?_)
  refine hK6 _ ?_
  refine AWP.ret ?_
  exact hK _ _ _ _ trivial (Fin.mk (by simp [aRes, aResL, aRes1, szT35, agT35, idf_Wd', Pt.cells]))

set_option maxHeartbeats 1000000 in
theorem eqWide_fc (x : W4) : FC Try.prog 77 [.agg [.int .u64 x.a, .int .u64 x.b, .int .u64 x.c, .int .u64 x.d], .agg [.int .u64 x.a, .int .u64 x.b, .int .u64 x.c, .int .u64 x.d]] (.bool true) := by
  refine FC.body Try.func77 rfl (by simp [idfL, idf, idfLL_iff, idf_Wd']) (by simp [idfL, idf, idfLL_iff, idf_Wd']) 25 rfl fun nx K hK => ?_
  refine AWP.seqk fun K1 hK1 => ?_
  refine AWP.region (AOPS.all (by simp (disch := first | omega | (simp only [List.length_append, List.length_cons, List.length_nil, List.length_set, List.length_replicate, Int.toNat_natCast]; omega)) [szT31, agT31, unT31, zoT31, byT31, szT33, agT33, flT33, zoT33, byT33, fdT33_0, fdT33_1, fdT33_2, fdT33_3, idf_Wd']; rfl) ?_)
  refine hK1 _ ?_
  refine AWP.seqk fun K2 hK2 => ?_
  refine AWP.seqk fun K3 hK3 => ?_
  refine AWP.region (AOPS.all (by simp (disch := first | omega | (simp only [List.length_append, List.length_cons, List.length_nil, List.length_set, List.length_replicate, Int.toNat_natCast]; omega)) [szT31, agT31, unT31, zoT31, byT31, szT33, agT33, flT33, zoT33, byT33, fdT33_0, fdT33_1, fdT33_2, fdT33_3, idf_Wd']; rfl) ?_)
  refine hK3 _ ?_
  refine cond_ok _ (by simp (disch := first | omega | (simp only [List.length_append, List.length_cons, List.length_nil, List.length_set, List.length_replicate, Int.toNat_natCast]; omega)); rfl) (fun h9 => ?_) (fun h9 => ?_)
  · simp at h9
  · try simp only [decide_eq_true_eq, decide_eq_false_iff_not] at h9
    refine AWP.skip ?_
    refine hK2 _ ?_
    refine AWP.seqk fun K4 hK4 => ?_
    refine AWP.seqk fun K5 hK5 => ?_
    refine AWP.region (AOPS.all (by simp (disch := first | omega | (simp only [List.length_append, List.length_cons, List.length_nil, List.length_set, List.length_replicate, Int.toNat_natCast]; omega)) [szT31, agT31, unT31, zoT31, byT31, szT33, agT33, flT33, zoT33, byT33, fdT33_0, fdT33_1, fdT33_2, fdT33_3, idf_Wd']; rfl) ?_)
    refine hK5 _ ?_
    refine cond_ok _ (by simp (disch := first | omega | (simp only [List.length_append, List.length_cons, List.length_nil, List.length_set, List.length_replicate, Int.toNat_natCast]; omega)); rfl) (fun h14 => ?_) (fun h14 => ?_)
    · simp at h14
    · try simp only [decide_eq_true_eq, decide_eq_false_iff_not] at h14
      refine AWP.skip ?_
      refine hK4 _ ?_
      refine AWP.seqk fun K6 hK6 => ?_
      refine AWP.seqk fun K7 hK7 => ?_
      refine AWP.region (AOPS.all (by simp (disch := first | omega | (simp only [List.length_append, List.length_cons, List.length_nil, List.length_set, List.length_replicate, Int.toNat_natCast]; omega)) [szT31, agT31, unT31, zoT31, byT31, szT33, agT33, flT33, zoT33, byT33, fdT33_0, fdT33_1, fdT33_2, fdT33_3, idf_Wd']; rfl) ?_)
      refine hK7 _ ?_
      refine cond_ok _ (by simp (disch := first | omega | (simp only [List.length_append, List.length_cons, List.length_nil, List.length_set, List.length_replicate, Int.toNat_natCast]; omega)); rfl) (fun h19 => ?_) (fun h19 => ?_)
      · simp at h19
      · try simp only [decide_eq_true_eq, decide_eq_false_iff_not] at h19
        refine AWP.skip ?_
        refine hK6 _ ?_
        refine AWP.seqk fun K8 hK8 => ?_
        refine AWP.seqk fun K9 hK9 => ?_
        refine AWP.region (AOPS.all (by simp (disch := first | omega | (simp only [List.length_append, List.length_cons, List.length_nil, List.length_set, List.length_replicate, Int.toNat_natCast]; omega)) [szT31, agT31, unT31, zoT31, byT31, szT33, agT33, flT33, zoT33, byT33, fdT33_0, fdT33_1, fdT33_2, fdT33_3, idf_Wd']; rfl) ?_)
        refine hK9 _ ?_
        refine cond_ok _ (by simp (disch := first | omega | (simp only [List.length_append, List.length_cons, List.length_nil, List.length_set, List.length_replicate, Int.toNat_natCast]; omega)); rfl) (fun h24 => ?_) (fun h24 => ?_)
        · simp at h24
        · try simp only [decide_eq_true_eq, decide_eq_false_iff_not] at h24
          refine AWP.skip ?_
          refine hK8 _ ?_
          refine AWP.seqk fun K10 hK10 => ?_
          refine AWP.region (AOPS.all (by simp (disch := first | omega | (simp only [List.length_append, List.length_cons, List.length_nil, List.length_set, List.length_replicate, Int.toNat_natCast]; omega)) [idf_Wd']; rfl) ?_)
          refine hK10 _ ?_
          refine AWP.ret ?_
          exact hK _ _ _ _ trivial (Fin.mk (by simp [aRes, aResL, aRes1, idf_Wd']))

set_option maxHeartbeats 1000000 in
theorem eqPoint_fc (p : Pt) : FC Try.prog 35 [.agg p.cells, .agg p.cells] (.bool true) := by
  refine FC.body Try.func35 rfl (by simp [idfL, idf, idfLL_iff, idf_Wd', Pt.cells]) (by simp [idfL, idf, idfLL_iff, idf_Wd', Pt.cells]) 23 rfl fun nx K hK => ?_
  refine AWP.seqk fun K1 hK1 => ?_
  refine AWP.region (AOPS.all (by simp (disch := first | omega | (simp only [List.length_append, List.length_cons, List.length_nil, List.length_set, List.length_replicate, Int.toNat_natCast]; omega)) [szT33, agT33, flT33, zoT33, byT33, szT35, agT35, flT35, zoT35, byT35, fdT35_0, fdT35_1, fdT35_2, idf_Wd', Pt.cells]; rfl) ?_)
  refine hK1 _ ?_
  refine AWP.seqk fun K2 hK2 => ?_
  refine AWP.seqk fun K3 hK3 => ?_
  refine AWP.region ?_
  refine AOPS.runk 4 (by simp (disch := first | omega | (simp only [List.length_append, List.length_cons, List.length_nil, List.length_set, List.length_replicate, Int.toNat_natCast]; omega)) [List.take_succ_cons, List.take_zero, szT31, agT31, unT31, zoT31, byT31, szT33, agT33, flT33, zoT33, byT33, szT35, agT35, flT35, zoT35, byT35, fdT33_0, fdT33_1, fdT33_2, fdT33_3, fdT35_0, fdT35_1, fdT35_2, idf_Wd', Pt.cells]; rfl) ?_
  simp only [List.drop_succ_cons, List.drop_zero]
  refine AOPS.fcall (eqWide_fc p.x) rfl rfl rfl hb77 (by simp (disch := first | omega | (simp only [List.length_append, List.length_cons, List.length_nil, List.length_set, List.length_replicate, Int.toNat_natCast]; omega)) [idf_Wd', idf_Wd', Pt.cells]) (by simp (disch := first | omega | (simp only [List.length_append, List.length_cons, List.length_nil, List.length_set, List.length_replicate, Int.toNat_natCast]; omega))) (by simp) ?_
  simp only [puts_some, updo]
  refine AOPS.all (by simp (disch := first | omega | (simp only [List.length_append, List.length_cons, List.length_nil, List.length_set, List.length_replicate, Int.toNat_natCast]; omega)) [szT31, agT31, unT31, zoT31, byT31, szT33, agT33, flT33, zoT33, byT33, szT35, agT35, flT35, zoT35, byT35, fdT33_0, fdT33_1, fdT33_2, fdT33_3, fdT35_0, fdT35_1, fdT35_2, idf_Wd', Pt.cells]; rfl) ?_
  refine hK3 _ ?_
  refine cond_ok _ (by simp (disch := first | omega | (simp only [List.length_append, List.length_cons, List.length_nil, List.length_set, List.length_replicate, Int.toNat_natCast]; omega)); rfl) (fun h10 => ?_) (fun h10 => ?_)
  · simp at h10
  · try simp only [decide_eq_true_eq, decide_eq_false_iff_not] at h10
    refine AWP.skip ?_
    refine hK2 _ ?_
    refine AWP.seqk fun K4 hK4 => ?_
    refine AWP.seqk fun K5 hK5 => ?_
    refine AWP.region ?_
    refine AOPS.runk 4 (by simp (disch := first | omega | (simp only [List.length_append, List.length_cons, List.length_nil, List.length_set, List.length_replicate, Int.toNat_natCast]; omega)) [List.take_succ_cons, List.take_zero, szT31, agT31, unT31, zoT31, byT31, szT33, agT33, flT33, zoT33, byT33, szT35, agT35, flT35, zoT35, byT35, fdT33_0, fdT33_1, fdT33_2, fdT33_3, fdT35_0, fdT35_1, fdT35_2, idf_Wd', Pt.cells]; rfl) ?_
    simp only [List.drop_succ_cons, List.drop_zero]
    refine AOPS.fcall (eqWide_fc p.y) rfl rfl rfl hb77 (by simp (disch := first | omega | (simp only [List.length_append, List.length_cons, List.length_nil, List.length_set, List.length_replicate, Int.toNat_natCast]; omega)) [idf_Wd', idf_Wd', Pt.cells]) (by simp (disch := first | omega | (simp only [List.length_append, List.length_cons, List.length_nil, List.length_set, List.length_replicate, Int.toNat_natCast]; omega))) (by simp) ?_
    simp only [puts_some, updo]
    refine AOPS.all (by simp (disch := first | omega | (simp only [List.length_append, List.length_cons, List.length_nil, List.length_set, List.length_replicate, Int.toNat_natCast]; omega)) [szT31, agT31, unT31, zoT31, byT31, szT33, agT33, flT33, zoT33, byT33, szT35, agT35, flT35, zoT35, byT35, fdT33_0, fdT33_1, fdT33_2, fdT33_3, fdT35_0, fdT35_1, fdT35_2, idf_Wd', Pt.cells]; rfl) ?_
    refine hK5 _ ?_
    refine cond_ok _ (by simp (disch := first | omega | (simp only [List.length_append, List.length_cons, List.length_nil, List.length_set, List.length_replicate, Int.toNat_natCast]; omega)); rfl) (fun h16 => ?_) (fun h16 => ?_)
    · simp at h16
    · try simp only [decide_eq_true_eq, decide_eq_false_iff_not] at h16
      refine AWP.skip ?_
      refine hK4 _ ?_
      refine AWP.seqk fun K6 hK6 => ?_
      refine AWP.seqk fun K7 hK7 => ?_
      refine AWP.region ?_
      refine AOPS.runk 4 (by simp (disch := first | omega | (simp only [List.length_append, List.length_cons, List.length_nil, List.length_set, List.length_replicate, Int.toNat_natCast]; omega)) [List.take_succ_cons, List.take_zero, szT31, agT31, unT31, zoT31, byT31, szT33, agT33, flT33, zoT33, byT33, szT35, agT35, flT35, zoT35, byT35, fdT33_0, fdT33_1, fdT33_2, fdT33_3, fdT35_0, fdT35_1, fdT35_2, idf_Wd', Pt.cells]; rfl) ?_
      simp only [List.drop_succ_cons, List.drop_zero]
      refine AOPS.fcall (eqWide_fc p.w) rfl rfl rfl hb77 (by simp (disch := first | omega | (simp only [List.length_append, List.length_cons, List.length_nil, List.length_set, List.length_replicate, Int.toNat_natCast]; omega)) [idf_Wd', idf_Wd', Pt.cells]) (by simp (disch := first | omega | (simp only [List.length_append, List.length_cons, List.length_nil, List.length_set, List.length_replicate, Int.toNat_natCast]; omega))) (by simp) ?_
      simp only [puts_some, updo]
      refine AOPS.all (by simp (disch := first | omega | (simp only [List.length_append, List.length_cons, List.length_nil, List.length_set, List.length_replicate, Int.toNat_natCast]; omega)) [szT31, agT31, unT31, zoT31, byT31, szT33, agT33, flT33, zoT33, byT33, szT35, agT35, flT35, zoT35, byT35, fdT33_0, fdT33_1, fdT33_2, fdT33_3, fdT35_0, fdT35_1, fdT35_2, idf_Wd', Pt.cells]; rfl) ?_
      refine hK7 _ ?_
      refine cond_ok _ (by simp (disch := first | omega | (simp only [List.length_append, List.length_cons, List.length_nil, List.length_set, List.length_replicate, Int.toNat_natCast]; omega)); rfl) (fun h22 => ?_) (fun h22 => ?_)
      · simp at h22
      · try simp only [decide_eq_true_eq, decide_eq_false_iff_not] at h22
        refine AWP.skip ?_
        refine hK6 _ ?_
        refine AWP.seqk fun K8 hK8 => ?_
        refine AWP.region (AOPS.all (by simp (disch := first | omega | (simp only [List.length_append, List.length_cons, List.length_nil, List.length_set, List.length_replicate, Int.toNat_natCast]; omega)) [idf_Wd', Pt.cells]; rfl) ?_)
        refine hK8 _ ?_
        refine AWP.ret ?_
        exact hK _ _ _ _ trivial (Fin.mk (by simp [aRes, aResL, aRes1, idf_Wd', Pt.cells]))

set_option maxHeartbeats 1000000 in
theorem eqPointS_fc (l : List Pt) (hl : l.length ≤ 9223372036854775807) : FC Try.prog 91 [.isl (l.map Pt.cells), .isl (l.map Pt.cells)] (.bool true) := by
  refine FC.body Try.func91 rfl (by simp [idfL, idf, idfLL_iff, Pt.cells]) (by simp [idfL, idf, idfLL_iff, idf_Wd']) 27 rfl fun nx K hK => ?_
  refine AWP.seqk fun K1 hK1 => ?_
  refine AWP.region (AOPS.all (by simp (disch := first | omega | (simp only [List.length_append, List.length_cons, List.length_nil, List.length_set, List.length_replicate, Int.toNat_natCast]; omega)) [idf_Wd']; rfl) ?_)
  refine hK1 _ ?_
  refine AWP.seqk fun K2 hK2 => ?_
  refine AWP.seqk fun K3 hK3 => ?_
  refine AWP.region (AOPS.all (by simp (disch := first | omega | (simp only [List.length_append, List.length_cons, List.length_nil, List.length_set, List.length_replicate, Int.toNat_natCast]; omega)) [szT3, agT3, unT3, zoT3, byT3, szT35, agT35, flT35, zoT35, byT35, szT76, agT76, elT76, unT76, zoT76, byT76, idf_Wd', List.length_map]; rfl) ?_)
  refine hK3 _ ?_
  refine cond_ok _ (by simp (disch := first | omega | (simp only [List.length_append, List.length_cons, List.length_nil, List.length_set, List.length_replicate, Int.toNat_natCast]; omega)); rfl) (fun h10 => ?_) (fun h10 => ?_)
  · simp at h10
  · try simp only [decide_eq_true_eq, decide_eq_false_iff_not] at h10
    refine AWP.skip ?_
    refine hK2 _ ?_
    refine AWP.seqk fun K4 hK4 => ?_
    refine AWP.seqk fun K5 hK5 => ?_
    refine AWP.region (AOPS.all (by simp (disch := first | omega | (simp only [List.length_append, List.length_cons, List.length_nil, List.length_set, List.length_replicate, Int.toNat_natCast]; omega)) [idf_Wd']; rfl) ?_)
    refine hK5 _ ?_
    refine AWP.block ?_
    refine AWP.loop (fun N s => ∃ i : Nat, N = l.length - i ∧ i ≤ l.length ∧ s.env 0 = .isl (l.map Pt.cells) ∧ s.env 1 = .isl (l.map Pt.cells) ∧ s.env 5 = .int .i64 (i : Int) ∧ s.nt = 27) (l.length) (⟨0, by omega, by omega, by simp, by simp, by simp, rfl⟩) ?_
    rintro N ⟨e, H, mm, nt⟩ ⟨i, rfl, hi, h0, h1, h5, rfl⟩
    simp only [] at h0 h1 h5
    refine AWP.seqk fun K6 hK6 => ?_
    refine AWP.seqk fun K7 hK7 => ?_
    refine AWP.region (AOPS.all (by simp (disch := first | omega | (simp only [List.length_append, List.length_cons, List.length_nil, List.length_set, List.length_replicate, Int.toNat_natCast]; omega)) [szT3, agT3, unT3, zoT3, byT3, szT35, agT35, flT35, zoT35, byT35, szT76, agT76, elT76, unT76, zoT76, byT76, idf_Wd', h0, h5, List.length_map]; rfl) ?_)
    refine hK7 _ ?_
    refine cond_ok _ (by simp (disch := first | omega | (simp only [List.length_append, List.length_cons, List.length_nil, List.length_set, List.length_replicate, Int.toNat_natCast]; omega)); rfl) (fun h14 => ?_) (fun h14 => ?_)
    · try simp only [decide_eq_true_eq, decide_eq_false_iff_not] at h14
      have hi' : i < l.length := by omega
      obtain ⟨p, hpi⟩ : ∃ p, l[i]? = some p := ⟨l[i], by simp [hi']⟩
      have hpm : (l.map Pt.cells)[i]? = some p.cells := by rw [List.getElem?_map, hpi]; rfl
      refine AWP.skip ?_
      refine hK6 _ ?_
      refine AWP.seqk fun K8 hK8 => ?_
      refine AWP.block ?_
      refine AWP.seqk fun K9 hK9 => ?_
      refine AWP.draw 10 Try.checked.mixed (by kernel_rfl) (by simp) ?_
      simp only [List.take_succ_cons, List.take_zero, List.drop_succ_cons, List.drop_zero]
      refine DP.runFk 8 (by simp (disch := first | omega | (simp only [List.length_append, List.length_cons, List.length_nil, List.length_set, List.length_replicate, Int.toNat_natCast]; omega)) [runDf.eq_def, runF1, runF2, stepF.eq_def, updo.eq_def, hupo.eq_def, opSto1.eq_def, List.take_succ_cons, List.take_zero, szT33, agT33, flT33, zoT33, byT33, szT35, agT35, flT35, zoT35, byT35, szT76, agT76, elT76, unT76, zoT76, byT76, fdT35_0, fdT35_1, fdT35_2, if_pos, idf_Wd', h0, h1, h5, hpm, Pt.cells, List.length_map]; rfl) fun fs10 hfs10 => ?_
      replace hfs10 : fs10.length = 8 := hfs10.trans rfl
      simp only [List.drop_succ_cons, List.drop_zero]
      refine DP.fcall (eqPoint_fc p) rfl rfl rfl hb35 (by simp (disch := first | omega | (simp only [List.length_append, List.length_cons, List.length_nil, List.length_set, List.length_replicate, Int.toNat_natCast]; omega)) [idf_Wd', h0, h1, h5, hpm, Pt.cells, List.length_map, idf_Wd']) (by simp (disch := first | omega | (simp only [List.length_append, List.length_cons, List.length_nil, List.length_set, List.length_replicate, Int.toNat_natCast]; omega)) [h0, h1, h5, hpm, Pt.cells, List.length_map]) (by simp) ?_
      simp only [updo]
      refine DP.runFk 1 (by simp (disch := first | omega | (simp only [List.length_append, List.length_cons, List.length_nil, List.length_set, List.length_replicate, Int.toNat_natCast]; omega)) [runDf.eq_def, runF1, runF2, stepF.eq_def, updo.eq_def, hupo.eq_def, opSto1.eq_def, List.take_succ_cons, List.take_zero, szT33, agT33, flT33, zoT33, byT33, szT35, agT35, flT35, zoT35, byT35, szT76, agT76, elT76, unT76, zoT76, byT76, fdT35_0, fdT35_1, fdT35_2, if_pos, idf_Wd', h0, h1, h5, hpm, Pt.cells, List.length_map]; rfl) fun fs11 hfs11 => ?_
      replace hfs11 : fs11.length = 1 := hfs11.trans rfl
      simp only [List.drop_succ_cons, List.drop_zero]
      refine DQ.runF (m := 10) (by simp only [List.length_append, List.length_cons, List.length_nil, hfs10, hfs11]; omega) _ _ _ (by kernel_rfl) rfl (by simp (disch := first | omega | (simp only [List.length_append, List.length_cons, List.length_nil, List.length_set, List.length_replicate, Int.toNat_natCast]; omega)) [runDf.eq_def, runF1, runF2, stepF.eq_def, updo.eq_def, hupo.eq_def, opSto1.eq_def, szT33, agT33, flT33, zoT33, byT33, szT35, agT35, flT35, zoT35, byT35, szT76, agT76, elT76, unT76, zoT76, byT76, fdT35_0, fdT35_1, fdT35_2, if_pos, idf_Wd', h0, h1, h5, hpm, Pt.cells, List.length_map]; rfl) ?_
      refine hK9 _ ?_
      refine cond_ok _ (by simp (disch := first | omega | (simp only [List.length_append, List.length_cons, List.length_nil, List.length_set, List.length_replicate, Int.toNat_natCast]; omega)); rfl) (fun h26 => ?_) (fun h26 => ?_)
      · simp at h26
      · try simp only [decide_eq_true_eq, decide_eq_false_iff_not] at h26
        refine AWP.skip ?_
        refine hK8 _ ?_
        refine AWP.region (AOPS.all (by simp (disch := first | omega | (simp only [List.length_append, List.length_cons, List.length_nil, List.length_set, List.length_replicate, Int.toNat_natCast]; omega)) [szT3, agT3, unT3, zoT3, byT3, idf_Wd', h5]; rfl) ?_)
        refine ⟨l.length - (i + 1), by omega, i + 1, rfl, by omega, by simp [h0], by simp [h1], by simp (disch := omega) [h5], rfl⟩
    · try simp only [decide_eq_true_eq, decide_eq_false_iff_not] at h14
      refine AWP.exit ?_
      refine hK4 _ ?_
      refine AWP.seqk fun K12 hK12 => ?_
      refine AWP.region (AOPS.all (by simp (disch := first | omega | (simp only [List.length_append, List.length_cons, List.length_nil, List.length_set, List.length_replicate, Int.toNat_natCast]; omega)) [idf_Wd']; rfl) ?_)
      refine hK12 _ ?_
      refine AWP.ret ?_
      exact hK _ _ _ _ trivial (Fin.mk (by simp [aRes, aResL, aRes1, idf_Wd']))

set_option maxHeartbeats 1000000 in
theorem eqLoop_fc (l : List Pt) (hl : l.length ≤ 9223372036854775807) : FC Try.prog 43 [.agg (ltC l), .agg (ltC l)] (.bool true) := by
  refine FC.body Try.func43 rfl (by simp [idfL, idf, idfLL_iff, ltC, Pt.cells]) (by simp [idfL, idf, idfLL_iff, idf_Wd', ltC]) 11 rfl fun nx K hK => ?_
  refine AWP.seqk fun K1 hK1 => ?_
  refine AWP.region (AOPS.all (by simp (disch := first | omega | (simp only [List.length_append, List.length_cons, List.length_nil, List.length_set, List.length_replicate, Int.toNat_natCast]; omega)) [szT76, agT76, elT76, unT76, zoT76, byT76, szT78, agT78, flT78, zoT78, byT78, fdT78_0, idf_Wd', ltC]; rfl) ?_)
  refine hK1 _ ?_
  refine AWP.seqk fun K2 hK2 => ?_
  refine AWP.seqk fun K3 hK3 => ?_
  refine AWP.region ?_
  refine AOPS.runk 4 (by simp (disch := first | omega | (simp only [List.length_append, List.length_cons, List.length_nil, List.length_set, List.length_replicate, Int.toNat_natCast]; omega)) [List.take_succ_cons, List.take_zero, szT35, agT35, flT35, zoT35, byT35, szT76, agT76, elT76, unT76, zoT76, byT76, szT78, agT78, flT78, zoT78, byT78, fdT78_0, idf_Wd', ltC]; rfl) ?_
  simp only [List.drop_succ_cons, List.drop_zero]
  refine AOPS.fcall (eqPointS_fc l hl) rfl rfl rfl hb91 (by simp (disch := first | omega | (simp only [List.length_append, List.length_cons, List.length_nil, List.length_set, List.length_replicate, Int.toNat_natCast]; omega)) [idf_Wd', idf_Wd', ltC]) (by simp (disch := first | omega | (simp only [List.length_append, List.length_cons, List.length_nil, List.length_set, List.length_replicate, Int.toNat_natCast]; omega))) (by simp) ?_
  simp only [puts_some, updo]
  refine AOPS.all (by simp (disch := first | omega | (simp only [List.length_append, List.length_cons, List.length_nil, List.length_set, List.length_replicate, Int.toNat_natCast]; omega)) [szT35, agT35, flT35, zoT35, byT35, szT76, agT76, elT76, unT76, zoT76, byT76, szT78, agT78, flT78, zoT78, byT78, fdT78_0, idf_Wd', ltC]; rfl) ?_
  refine hK3 _ ?_
  refine cond_ok _ (by simp (disch := first | omega | (simp only [List.length_append, List.length_cons, List.length_nil, List.length_set, List.length_replicate, Int.toNat_natCast]; omega)); rfl) (fun h10 => ?_) (fun h10 => ?_)
  · simp at h10
  · try simp only [decide_eq_true_eq, decide_eq_false_iff_not] at h10
    refine AWP.skip ?_
    refine hK2 _ ?_
    refine AWP.seqk fun K4 hK4 => ?_
    refine AWP.region (AOPS.all (by simp (disch := first | omega | (simp only [List.length_append, List.length_cons, List.length_nil, List.length_set, List.length_replicate, Int.toNat_natCast]; omega)) [idf_Wd', ltC]; rfl) ?_)
    refine hK4 _ ?_
    refine AWP.ret ?_
    exact hK _ _ _ _ trivial (Fin.mk (by simp [aRes, aResL, aRes1, idf_Wd', ltC]))

set_option maxHeartbeats 1000000 in
theorem eqLoopS_fc (L : List (List Pt)) (hl : L.length ≤ 9223372036854775807) (hl2 : ∀ l ∈ L, l.length ≤ 9223372036854775807) : FC Try.prog 13 [lsA L, lsA L] (.bool true) := by
  refine FC.body Try.func13 rfl (by simp [idfL, idf, idfLL_iff, lsA, ltC, Pt.cells]) (by simp [idfL, idf, idfLL_iff, idf_Wd']) 27 rfl fun nx K hK => ?_
  refine AWP.seqk fun K1 hK1 => ?_
  refine AWP.region (AOPS.all (by simp (disch := first | omega | (simp only [List.length_append, List.length_cons, List.length_nil, List.length_set, List.length_replicate, Int.toNat_natCast]; omega)) [idf_Wd']; rfl) ?_)
  refine hK1 _ ?_
  refine AWP.seqk fun K2 hK2 => ?_
  refine AWP.seqk fun K3 hK3 => ?_
  refine AWP.region (AOPS.all (by simp (disch := first | omega | (simp only [List.length_append, List.length_cons, List.length_nil, List.length_set, List.length_replicate, Int.toNat_natCast]; omega)) [szT3, agT3, unT3, zoT3, byT3, szT25, agT25, elT25, unT25, zoT25, byT25, szT78, agT78, flT78, zoT78, byT78, idf_Wd', lsA, List.length_map]; rfl) ?_)
  refine hK3 _ ?_
  refine cond_ok _ (by simp (disch := first | omega | (simp only [List.length_append, List.length_cons, List.length_nil, List.length_set, List.length_replicate, Int.toNat_natCast]; omega)); rfl) (fun h10 => ?_) (fun h10 => ?_)
  · simp at h10
  · try simp only [decide_eq_true_eq, decide_eq_false_iff_not] at h10
    refine AWP.skip ?_
    refine hK2 _ ?_
    refine AWP.seqk fun K4 hK4 => ?_
    refine AWP.seqk fun K5 hK5 => ?_
    refine AWP.region (AOPS.all (by simp (disch := first | omega | (simp only [List.length_append, List.length_cons, List.length_nil, List.length_set, List.length_replicate, Int.toNat_natCast]; omega)) [idf_Wd']; rfl) ?_)
    refine hK5 _ ?_
    refine AWP.block ?_
    refine AWP.loop (fun N s => ∃ i : Nat, N = L.length - i ∧ i ≤ L.length ∧ s.env 0 = lsA L ∧ s.env 1 = lsA L ∧ s.env 5 = .int .i64 (i : Int) ∧ s.nt = 27) (L.length) (⟨0, by omega, by omega, by simp [lsA], by simp [lsA], by simp, rfl⟩) ?_
    rintro N ⟨e, H, mm, nt⟩ ⟨i, rfl, hi, h0, h1, h5, rfl⟩
    simp only [] at h0 h1 h5
    refine AWP.seqk fun K6 hK6 => ?_
    refine AWP.seqk fun K7 hK7 => ?_
    refine AWP.region (AOPS.all (by simp (disch := first | omega | (simp only [List.length_append, List.length_cons, List.length_nil, List.length_set, List.length_replicate, Int.toNat_natCast]; omega)) [szT3, agT3, unT3, zoT3, byT3, szT25, agT25, elT25, unT25, zoT25, byT25, szT78, agT78, flT78, zoT78, byT78, idf_Wd', h0, h5, lsA, List.length_map]; rfl) ?_)
    refine hK7 _ ?_
    refine cond_ok _ (by simp (disch := first | omega | (simp only [List.length_append, List.length_cons, List.length_nil, List.length_set, List.length_replicate, Int.toNat_natCast]; omega)); rfl) (fun h14 => ?_) (fun h14 => ?_)
    · try simp only [decide_eq_true_eq, decide_eq_false_iff_not] at h14
      have hi' : i < L.length := by omega
      obtain ⟨l, hli⟩ : ∃ l, L[i]? = some l := ⟨L[i], by simp [hi']⟩
      have hmi : (L.map ltC)[i]? = some (ltC l) := by rw [List.getElem?_map, hli]; rfl
      have hmem := List.mem_of_getElem? hli
      refine AWP.skip ?_
      refine hK6 _ ?_
      refine AWP.seqk fun K8 hK8 => ?_
      refine AWP.block ?_
      refine AWP.seqk fun K9 hK9 => ?_
      refine AWP.draw 10 Try.checked.mixed (by kernel_rfl) (by simp) ?_
      simp only [List.take_succ_cons, List.take_zero, List.drop_succ_cons, List.drop_zero]
      refine DP.runFk 8 (by simp (disch := first | omega | (simp only [List.length_append, List.length_cons, List.length_nil, List.length_set, List.length_replicate, Int.toNat_natCast]; omega)) [runDf.eq_def, runF1, runF2, stepF.eq_def, updo.eq_def, hupo.eq_def, opSto1.eq_def, List.take_succ_cons, List.take_zero, szT25, agT25, elT25, unT25, zoT25, byT25, szT76, agT76, elT76, unT76, zoT76, byT76, szT78, agT78, flT78, zoT78, byT78, fdT78_0, if_pos, idf_Wd', h0, h1, h5, hmi, lsA, ltC, List.length_map]; rfl) fun fs10 hfs10 => ?_
      replace hfs10 : fs10.length = 8 := hfs10.trans rfl
      simp only [List.drop_succ_cons, List.drop_zero]
      refine DP.fcall (eqLoop_fc l (hl2 l hmem)) rfl rfl rfl hb43 (by simp (disch := first | omega | (simp only [List.length_append, List.length_cons, List.length_nil, List.length_set, List.length_replicate, Int.toNat_natCast]; omega)) [idf_Wd', h0, h1, h5, hmi, lsA, ltC, List.length_map, idf_Wd']) (by simp (disch := first | omega | (simp only [List.length_append, List.length_cons, List.length_nil, List.length_set, List.length_replicate, Int.toNat_natCast]; omega)) [h0, h1, h5, hmi, lsA, ltC, List.length_map]) (by simp) ?_
      simp only [updo]
      refine DP.runFk 1 (by simp (disch := first | omega | (simp only [List.length_append, List.length_cons, List.length_nil, List.length_set, List.length_replicate, Int.toNat_natCast]; omega)) [runDf.eq_def, runF1, runF2, stepF.eq_def, updo.eq_def, hupo.eq_def, opSto1.eq_def, List.take_succ_cons, List.take_zero, szT25, agT25, elT25, unT25, zoT25, byT25, szT76, agT76, elT76, unT76, zoT76, byT76, szT78, agT78, flT78, zoT78, byT78, fdT78_0, if_pos, idf_Wd', h0, h1, h5, hmi, lsA, ltC, List.length_map]; rfl) fun fs11 hfs11 => ?_
      replace hfs11 : fs11.length = 1 := hfs11.trans rfl
      simp only [List.drop_succ_cons, List.drop_zero]
      refine DQ.runF (m := 10) (by simp only [List.length_append, List.length_cons, List.length_nil, hfs10, hfs11]; omega) _ _ _ (by kernel_rfl) rfl (by simp (disch := first | omega | (simp only [List.length_append, List.length_cons, List.length_nil, List.length_set, List.length_replicate, Int.toNat_natCast]; omega)) [runDf.eq_def, runF1, runF2, stepF.eq_def, updo.eq_def, hupo.eq_def, opSto1.eq_def, szT25, agT25, elT25, unT25, zoT25, byT25, szT76, agT76, elT76, unT76, zoT76, byT76, szT78, agT78, flT78, zoT78, byT78, fdT78_0, if_pos, idf_Wd', h0, h1, h5, hmi, lsA, ltC, List.length_map]; rfl) ?_
      refine hK9 _ ?_
      refine cond_ok _ (by simp (disch := first | omega | (simp only [List.length_append, List.length_cons, List.length_nil, List.length_set, List.length_replicate, Int.toNat_natCast]; omega)); rfl) (fun h26 => ?_) (fun h26 => ?_)
      · simp at h26
      · try simp only [decide_eq_true_eq, decide_eq_false_iff_not] at h26
        refine AWP.skip ?_
        refine hK8 _ ?_
        refine AWP.region (AOPS.all (by simp (disch := first | omega | (simp only [List.length_append, List.length_cons, List.length_nil, List.length_set, List.length_replicate, Int.toNat_natCast]; omega)) [szT3, agT3, unT3, zoT3, byT3, idf_Wd', h5]; rfl) ?_)
        refine ⟨L.length - (i + 1), by omega, i + 1, rfl, by omega, by simp [h0], by simp [h1], by simp (disch := omega) [h5], rfl⟩
    · try simp only [decide_eq_true_eq, decide_eq_false_iff_not] at h14
      refine AWP.exit ?_
      refine hK4 _ ?_
      refine AWP.seqk fun K12 hK12 => ?_
      refine AWP.region (AOPS.all (by simp (disch := first | omega | (simp only [List.length_append, List.length_cons, List.length_nil, List.length_set, List.length_replicate, Int.toNat_natCast]; omega)) [idf_Wd']; rfl) ?_)
      refine hK12 _ ?_
      refine AWP.ret ?_
      exact hK _ _ _ _ trivial (Fin.mk (by simp [aRes, aResL, aRes1, idf_Wd']))

end Go.Proofs.Ytdcggmbnjonemaa

/- Walks: FnExactLoopsOk, walked. -/
namespace Go.Proofs.Ytdcggmbnjonemaa
open Go Go.RowKit
set_option linter.unusedSimpArgs false
set_option linter.unusedVariables false
set_option maxRecDepth 100000
attribute [local simp] List.getElem?_cons_zero List.getElem?_cons_succ List.getElem?_toArray runOps stepOp.eq_def agd.eq_def dstOk.eq_def opVal.eq_def opNew.eq_def opSto.eq_def ev.eq_def cv.eq_def puts_some puts_none upd_ap lst.eq_def aBin.eq_def aUn.eq_def aBi_str aBi_isl aBi_osl aBi_nsl aBi_max aBi_min aBi_max3 aConv.eq_def aLd.eq_def aLoad.eq_def aField.eq_def aFld.eq_def aIdx_isl aIdx_osl aSlc_isl aSlc_osl aSlc_str aSlc_nsl bnd.eq_def evs_nil evs_cons aBuild.eq_def aFill splice.eq_def cells_agg cells_int cells_bool cells_str cells_nil cells_nsl cells_isl cells_osl cells_ptr cells_ip cells_fn cells_Wd one_int one_bool one_str one_nil one_nsl one_isl one_osl one_ptr one_ip one_fn one_Wd aSets hupd_eq hupd_ne wrap_i64s wrap_u64s wrap_u32s wrap_u8s wd_getD wd_set wd_len wd_replicate wd_one wd_fold fz_osl hupd_same aSix.eq_def aEqS.eq_def aEqB_bool aEqB_nsl aEqB_nil

set_option maxHeartbeats 1000000 in
theorem toPointS_fc (l : List Pt) (hl : l.length ≤ 1048576) : FC Try.prog 90 [.isl (l.map Pt.cells)] (.isl (l.map Pt.cells)) := by
  refine FC.body Try.func90 rfl (by simp [idfL, idf, idfLL_iff, Pt.cells]) (by simp [idf, idfL, idfLL_iff, Pt.cells]) 23 rfl fun nx K hK => ?_
  refine AWP.seqk fun K1 hK1 => ?_
  refine AWP.region (AOPS.all (by simp (disch := first | omega | (simp only [List.length_append, List.length_cons, List.length_nil, List.length_set, List.length_replicate, Int.toNat_natCast]; omega)) [idf_Wd']; rfl) ?_)
  refine hK1 _ ?_
  refine AWP.seqk fun K2 hK2 => ?_
  refine AWP.region (AOPS.all (by simp (disch := first | omega | (simp only [List.length_append, List.length_cons, List.length_nil, List.length_set, List.length_replicate, Int.toNat_natCast]; omega)) [szT35, agT35, flT35, zoT35, byT35, szT68, agT68, flT68, zoT68, byT68, szT73, agT73, elT73, unT73, zoT73, byT73, szT76, agT76, elT76, unT76, zoT76, byT76, if_pos, idf_Wd', List.length_map]; rfl) ?_)
  refine hK2 _ ?_
  refine AWP.seqk fun K3 hK3 => ?_
  refine AWP.seqk fun K4 hK4 => ?_
  refine AWP.region (AOPS.all (by simp (disch := first | omega | (simp only [List.length_append, List.length_cons, List.length_nil, List.length_set, List.length_replicate, Int.toNat_natCast]; omega)) [idf_Wd']; rfl) ?_)
  refine hK4 _ ?_
  refine AWP.block ?_
  refine AWP.loop (fun N s => ∃ i id : Nat, N = l.length - i ∧ i ≤ l.length ∧ s.env 0 = .isl (l.map Pt.cells) ∧ s.env 3 = .osl id 0 l.length ∧ s.env 4 = .int .i64 (i : Int) ∧ s.heap id = some (12, fillR Pt.cells [.int .u64 0, .int .u64 0, .int .u64 0, .int .u64 0, .int .u64 0, .int .u64 0, .int .u64 0, .int .u64 0, .int .u64 0, .int .u64 0, .int .u64 0, .int .u64 0] l i) ∧ s.nt = 23) (l.length) (⟨0, nx, by omega, by omega, by simp, by simp, by simp, by simp [← fillR_zero], rfl⟩) ?_
  rintro N ⟨e, H, mm, nt⟩ ⟨i, id, rfl, hi, h0, h3, h4, hH, rfl⟩
  simp only [] at h0 h3 h4 hH
  refine AWP.seqk fun K5 hK5 => ?_
  refine AWP.seqk fun K6 hK6 => ?_
  refine AWP.region (AOPS.all (by simp (disch := first | omega | (simp only [List.length_append, List.length_cons, List.length_nil, List.length_set, List.length_replicate, Int.toNat_natCast]; omega)) [szT3, agT3, unT3, zoT3, byT3, szT68, agT68, flT68, zoT68, byT68, szT73, agT73, elT73, unT73, zoT73, byT73, idf_Wd', h0, h4, List.length_map]; rfl) ?_)
  refine hK6 _ ?_
  refine cond_ok _ (by simp (disch := first | omega | (simp only [List.length_append, List.length_cons, List.length_nil, List.length_set, List.length_replicate, Int.toNat_natCast]; omega)); rfl) (fun h11 => ?_) (fun h11 => ?_)
  · try simp only [decide_eq_true_eq, decide_eq_false_iff_not] at h11
    have hi' : i < l.length := by omega
    obtain ⟨p, hpi⟩ : ∃ p, l[i]? = some p := ⟨l[i], by simp [hi']⟩
    have hpm : (l.map Pt.cells)[i]? = some p.cells := by rw [List.getElem?_map, hpi]; rfl
    have fst := fillR_set Pt.cells [.int .u64 0, .int .u64 0, .int .u64 0, .int .u64 0, .int .u64 0, .int .u64 0, .int .u64 0, .int .u64 0, .int .u64 0, .int .u64 0, .int .u64 0, .int .u64 0] l hpi
    simp only [Pt.cells] at fst
    have fl := fillR_len Pt.cells [.int .u64 0, .int .u64 0, .int .u64 0, .int .u64 0, .int .u64 0, .int .u64 0, .int .u64 0, .int .u64 0, .int .u64 0, .int .u64 0, .int .u64 0, .int .u64 0] l hi
    have fg := fillR_getE Pt.cells [.int .u64 0, .int .u64 0, .int .u64 0, .int .u64 0, .int .u64 0, .int .u64 0, .int .u64 0, .int .u64 0, .int .u64 0, .int .u64 0, .int .u64 0, .int .u64 0] l hi'
    refine AWP.skip ?_
    refine hK5 _ ?_
    refine AWP.seqk fun K7 hK7 => ?_
    refine AWP.block ?_
    refine AWP.region ?_
    refine AOPS.runk 6 (by simp (disch := first | omega | (simp only [List.length_append, List.length_cons, List.length_nil, List.length_set, List.length_replicate, Int.toNat_natCast]; omega)) [List.take_succ_cons, List.take_zero, szT33, agT33, flT33, zoT33, byT33, szT35, agT35, flT35, zoT35, byT35, szT66, agT66, flT66, zoT66, byT66, szT68, agT68, flT68, zoT68, byT68, szT73, agT73, elT73, unT73, zoT73, byT73, szT76, agT76, elT76, unT76, zoT76, byT76, fdT35_0, fdT35_1, fdT35_2, fdT68_0, fdT68_1, fdT68_2, if_pos, idf_Wd', h0, h3, h4, hH, fl, fg, hpm, Pt.cells, List.length_map]; rfl) ?_
    simp only [List.drop_succ_cons, List.drop_zero]
    refine AOPS.fcall (toPoint_fc p) rfl rfl rfl hb37 (by simp (disch := first | omega | (simp only [List.length_append, List.length_cons, List.length_nil, List.length_set, List.length_replicate, Int.toNat_natCast]; omega)) [idf_Wd', h0, h3, h4, hH, fl, fg, hpm, Pt.cells, List.length_map, idf_Wd']) (by simp (disch := first | omega | (simp only [List.length_append, List.length_cons, List.length_nil, List.length_set, List.length_replicate, Int.toNat_natCast]; omega)) [h0, h3, h4, hH, fl, fg, hpm, Pt.cells, List.length_map]) (by simp) ?_
    simp only [puts_some, updo]
    refine AOPS.all (by simp (disch := first | omega | (simp only [List.length_append, List.length_cons, List.length_nil, List.length_set, List.length_replicate, Int.toNat_natCast]; omega)) [szT33, agT33, flT33, zoT33, byT33, szT35, agT35, flT35, zoT35, byT35, szT66, agT66, flT66, zoT66, byT66, szT68, agT68, flT68, zoT68, byT68, szT73, agT73, elT73, unT73, zoT73, byT73, szT76, agT76, elT76, unT76, zoT76, byT76, fdT35_0, fdT35_1, fdT35_2, fdT68_0, fdT68_1, fdT68_2, if_pos, idf_Wd', h0, h3, h4, hH, fl, fg, hpm, Pt.cells, List.length_map]; rfl) ?_
    refine hK7 _ ?_
    refine AWP.region (AOPS.all (by simp (disch := first | omega | (simp only [List.length_append, List.length_cons, List.length_nil, List.length_set, List.length_replicate, Int.toNat_natCast]; omega)) [szT3, agT3, unT3, zoT3, byT3, idf_Wd', h4]; rfl) ?_)
    refine ⟨l.length - (i + 1), by omega, i + 1, id, rfl, by omega, by simp [h0], by simp [h3], by simp (disch := omega) [h4], by simp [fst], rfl⟩
  · try simp only [decide_eq_true_eq, decide_eq_false_iff_not] at h11
    have hin : i = l.length := by omega
    rw [hin, fillR_all] at hH
    refine AWP.exit ?_
    refine hK3 _ ?_
    refine AWP.seqk fun K8 hK8 => ?_
    refine AWP.region (AOPS.all (by simp (disch := first | omega | (simp only [List.length_append, List.length_cons, List.length_nil, List.length_set, List.length_replicate, Int.toNat_natCast]; omega)) [idf_Wd', h3]; rfl) ?_)
    refine hK8 _ ?_
    refine AWP.ret ?_
    exact hK _ _ _ _ trivial (((Fin.mk (r := .osl id 0 l.length) (by simp [aRes, aResL, aRes1, idf_Wd'])).freeze (id := id) (z := 12) (es := l.map Pt.cells) (by simp [hH])).cast (fz_fill _ _ rfl))

set_option maxHeartbeats 1000000 in
theorem toLoop_fc (l : List Pt) (hl : l.length ≤ 1048576) : FC Try.prog 41 [.agg (ltC l)] (.agg (ltC l)) := by
  refine FC.body Try.func41 rfl (by simp [idfL, idf, idfLL_iff, ltC, Pt.cells]) (by simp [idf, idfL, idfLL_iff, ltC, Pt.cells]) 9 rfl fun nx K hK => ?_
  refine AWP.seqk fun K1 hK1 => ?_
  refine AWP.region (AOPS.all (by simp (disch := first | omega | (simp only [List.length_append, List.length_cons, List.length_nil, List.length_set, List.length_replicate, Int.toNat_natCast]; omega)) [szT73, agT73, elT73, unT73, zoT73, byT73, szT75, agT75, flT75, zoT75, byT75, szT76, agT76, elT76, unT76, zoT76, byT76, szT78, agT78, flT78, zoT78, byT78, fdT75_0, fdT78_0, idf_Wd', ltC]; rfl) ?_)
  refine hK1 _ ?_
  refine AWP.seqk fun K2 hK2 => ?_
  refine AWP.region (AOPS.all (by simp (disch := first | omega | (simp only [List.length_append, List.length_cons, List.length_nil, List.length_set, List.length_replicate, Int.toNat_natCast]; omega)) [szT76, agT76, elT76, unT76, zoT76, byT76, szT78, agT78, flT78, zoT78, byT78, fdT78_0, idf_Wd', ltC]; rfl) ?_)
  refine hK2 _ ?_
  refine AWP.seqk fun K3 hK3 => ?_
  refine AWP.region ?_
  refine AOPS.runk 2 (by simp (disch := first | omega | (simp only [List.length_append, List.length_cons, List.length_nil, List.length_set, List.length_replicate, Int.toNat_natCast]; omega)) [List.take_succ_cons, List.take_zero, szT35, agT35, flT35, zoT35, byT35, szT68, agT68, flT68, zoT68, byT68, szT73, agT73, elT73, unT73, zoT73, byT73, szT75, agT75, flT75, zoT75, byT75, szT76, agT76, elT76, unT76, zoT76, byT76, szT78, agT78, flT78, zoT78, byT78, fdT75_0, fdT78_0, idf_Wd', ltC]; rfl) ?_
  simp only [List.drop_succ_cons, List.drop_zero]
  refine AOPS.fcall (toPointS_fc l hl) rfl rfl rfl hb90 (by simp (disch := first | omega | (simp only [List.length_append, List.length_cons, List.length_nil, List.length_set, List.length_replicate, Int.toNat_natCast]; omega)) [idf_Wd', idf_Wd', ltC]) (by simp (disch := first | omega | (simp only [List.length_append, List.length_cons, List.length_nil, List.length_set, List.length_replicate, Int.toNat_natCast]; omega))) (by simp) ?_
  simp only [puts_some, updo]
  refine AOPS.all (by simp (disch := first | omega | (simp only [List.length_append, List.length_cons, List.length_nil, List.length_set, List.length_replicate, Int.toNat_natCast]; omega)) [szT35, agT35, flT35, zoT35, byT35, szT68, agT68, flT68, zoT68, byT68, szT73, agT73, elT73, unT73, zoT73, byT73, szT75, agT75, flT75, zoT75, byT75, szT76, agT76, elT76, unT76, zoT76, byT76, szT78, agT78, flT78, zoT78, byT78, fdT75_0, fdT78_0, idf_Wd', ltC]; rfl) ?_
  refine hK3 _ ?_
  refine AWP.seqk fun K4 hK4 => ?_
  refine AWP.region (AOPS.all (by simp (disch := first | omega | (simp only [List.length_append, List.length_cons, List.length_nil, List.length_set, List.length_replicate, Int.toNat_natCast]; omega)) [szT76, agT76, elT76, unT76, zoT76, byT76, szT78, agT78, flT78, zoT78, byT78, fdT78_0, idf_Wd', ltC]; rfl) ?_)
  refine hK4 _ ?_
  refine AWP.ret ?_
  exact hK _ _ _ _ trivial (Fin.mk (by simp (disch := first | omega | (simp only [List.length_append, List.length_cons, List.length_nil, List.length_set, List.length_replicate, Int.toNat_natCast]; omega)) [aRes, aResL, aRes1, szT78, agT78, idf_Wd', ltC]))

set_option maxHeartbeats 1000000 in
theorem toLoopS_fc (L : List (List Pt)) (hl : L.length ≤ 1048576) (hl2 : ∀ l ∈ L, l.length ≤ 1048576) : FC Try.prog 11 [lsA L] (lsA L) := by
  refine FC.body Try.func11 rfl (by simp [idfL, idf, idfLL_iff, lsA, ltC, Pt.cells]) (by simp [idf, idfL, idfLL_iff, lsA, ltC, Pt.cells]) 23 rfl fun nx K hK => ?_
  unfold lsA
  refine AWP.seqk fun K1 hK1 => ?_
  refine AWP.region (AOPS.all (by simp (disch := first | omega | (simp only [List.length_append, List.length_cons, List.length_nil, List.length_set, List.length_replicate, Int.toNat_natCast]; omega)) [idf_Wd']; rfl) ?_)
  refine hK1 _ ?_
  refine AWP.seqk fun K2 hK2 => ?_
  refine AWP.region (AOPS.all (by simp (disch := first | omega | (simp only [List.length_append, List.length_cons, List.length_nil, List.length_set, List.length_replicate, Int.toNat_natCast]; omega)) [szT22, agT22, elT22, unT22, zoT22, byT22, szT25, agT25, elT25, unT25, zoT25, byT25, szT75, agT75, flT75, zoT75, byT75, szT78, agT78, flT78, zoT78, byT78, if_pos, idf_Wd', List.length_map]; rfl) ?_)
  refine hK2 _ ?_
  refine AWP.seqk fun K3 hK3 => ?_
  refine AWP.seqk fun K4 hK4 => ?_
  refine AWP.region (AOPS.all (by simp (disch := first | omega | (simp only [List.length_append, List.length_cons, List.length_nil, List.length_set, List.length_replicate, Int.toNat_natCast]; omega)) [idf_Wd']; rfl) ?_)
  refine hK4 _ ?_
  refine AWP.block ?_
  refine AWP.loop (fun N s => ∃ i id : Nat, N = L.length - i ∧ i ≤ L.length ∧ s.env 0 = .isl (L.map ltC) ∧ s.env 3 = .osl id 0 L.length ∧ s.env 4 = .int .i64 (i : Int) ∧ s.heap id = some (1, fillR ltC [.nsl] L i) ∧ s.nt = 23) (L.length) (⟨0, nx, by omega, by omega, by simp, by simp, by simp, by simp [← fillR_zero], rfl⟩) ?_
  rintro N ⟨e, H, mm, nt⟩ ⟨i, id, rfl, hi, h0, h3, h4, hH, rfl⟩
  simp only [] at h0 h3 h4 hH
  refine AWP.seqk fun K5 hK5 => ?_
  refine AWP.seqk fun K6 hK6 => ?_
  refine AWP.region (AOPS.all (by simp (disch := first | omega | (simp only [List.length_append, List.length_cons, List.length_nil, List.length_set, List.length_replicate, Int.toNat_natCast]; omega)) [szT3, agT3, unT3, zoT3, byT3, szT22, agT22, elT22, unT22, zoT22, byT22, szT75, agT75, flT75, zoT75, byT75, idf_Wd', h0, h4, List.length_map]; rfl) ?_)
  refine hK6 _ ?_
  refine cond_ok _ (by simp (disch := first | omega | (simp only [List.length_append, List.length_cons, List.length_nil, List.length_set, List.length_replicate, Int.toNat_natCast]; omega)); rfl) (fun h11 => ?_) (fun h11 => ?_)
  · try simp only [decide_eq_true_eq, decide_eq_false_iff_not] at h11
    have hi' : i < L.length := by omega
    obtain ⟨l, hli⟩ : ∃ l, L[i]? = some l := ⟨L[i], by simp [hi']⟩
    have hmi : (L.map ltC)[i]? = some (ltC l) := by rw [List.getElem?_map, hli]; rfl
    have hmem := List.mem_of_getElem? hli
    have fst := fillR_set ltC [.nsl] L hli
    simp only [ltC] at fst
    have fl := fillR_len ltC [.nsl] L hi
    have fg := fillR_getE ltC [.nsl] L hi'
    refine AWP.skip ?_
    refine hK5 _ ?_
    refine AWP.seqk fun K7 hK7 => ?_
    refine AWP.block ?_
    refine AWP.region ?_
    refine AOPS.runk 6 (by simp (disch := first | omega | (simp only [List.length_append, List.length_cons, List.length_nil, List.length_set, List.length_replicate, Int.toNat_natCast]; omega)) [List.take_succ_cons, List.take_zero, szT22, agT22, elT22, unT22, zoT22, byT22, szT25, agT25, elT25, unT25, zoT25, byT25, szT73, agT73, elT73, unT73, zoT73, byT73, szT75, agT75, flT75, zoT75, byT75, szT76, agT76, elT76, unT76, zoT76, byT76, szT78, agT78, flT78, zoT78, byT78, fdT75_0, fdT78_0, if_pos, idf_Wd', h0, h3, h4, hH, fl, fg, hmi, ltC, List.length_map]; rfl) ?_
    simp only [List.drop_succ_cons, List.drop_zero]
    refine AOPS.fcall (toLoop_fc l (hl2 l hmem)) rfl rfl rfl hb41 (by simp (disch := first | omega | (simp only [List.length_append, List.length_cons, List.length_nil, List.length_set, List.length_replicate, Int.toNat_natCast]; omega)) [idf_Wd', h0, h3, h4, hH, fl, fg, hmi, ltC, List.length_map, idf_Wd']) (by simp (disch := first | omega | (simp only [List.length_append, List.length_cons, List.length_nil, List.length_set, List.length_replicate, Int.toNat_natCast]; omega)) [h0, h3, h4, hH, fl, fg, hmi, ltC, List.length_map]) (by simp) ?_
    simp only [puts_some, updo]
    refine AOPS.all (by simp (disch := first | omega | (simp only [List.length_append, List.length_cons, List.length_nil, List.length_set, List.length_replicate, Int.toNat_natCast]; omega)) [szT22, agT22, elT22, unT22, zoT22, byT22, szT25, agT25, elT25, unT25, zoT25, byT25, szT73, agT73, elT73, unT73, zoT73, byT73, szT75, agT75, flT75, zoT75, byT75, szT76, agT76, elT76, unT76, zoT76, byT76, szT78, agT78, flT78, zoT78, byT78, fdT75_0, fdT78_0, if_pos, idf_Wd', h0, h3, h4, hH, fl, fg, hmi, ltC, List.length_map]; rfl) ?_
    refine hK7 _ ?_
    refine AWP.region (AOPS.all (by simp (disch := first | omega | (simp only [List.length_append, List.length_cons, List.length_nil, List.length_set, List.length_replicate, Int.toNat_natCast]; omega)) [szT3, agT3, unT3, zoT3, byT3, idf_Wd', h4]; rfl) ?_)
    refine ⟨L.length - (i + 1), by omega, i + 1, id, rfl, by omega, by simp [h0], by simp [h3], by simp (disch := omega) [h4], by simp [fst], rfl⟩
  · try simp only [decide_eq_true_eq, decide_eq_false_iff_not] at h11
    have hin : i = L.length := by omega
    rw [hin, fillR_all] at hH
    refine AWP.exit ?_
    refine hK3 _ ?_
    refine AWP.seqk fun K8 hK8 => ?_
    refine AWP.region (AOPS.all (by simp (disch := first | omega | (simp only [List.length_append, List.length_cons, List.length_nil, List.length_set, List.length_replicate, Int.toNat_natCast]; omega)) [idf_Wd', h3]; rfl) ?_)
    refine hK8 _ ?_
    refine AWP.ret ?_
    exact hK _ _ _ _ trivial (((Fin.mk (r := .osl id 0 L.length) (by simp [aRes, aResL, aRes1, idf_Wd'])).freeze (id := id) (z := 1) (es := L.map ltC) (by simp [hH])).cast (fz_fill _ _ rfl))

set_option maxHeartbeats 1000000 in
theorem fnExactLoopsOk_fc (L : List (List Pt)) (hL : ∀ l ∈ L, ∀ p ∈ l, p.ok) (hl : L.length ≤ 9223372036854775807) (hl2 : ∀ l ∈ L, l.length ≤ 9223372036854775807) : FC Try.prog 3 [lsA L] (.bool true) := by
  refine FC.body Try.func3 rfl (by simp [idfL, idf, idfLL_iff, lsA, ltC, Pt.cells]) (by simp [idfL, idf, idfLL_iff, idf_Wd']) 27 rfl fun nx K hK => ?_
  refine AWP.seqk fun K1 hK1 => ?_
  refine AWP.region (AOPS.all (by simp (disch := first | omega | (simp only [List.length_append, List.length_cons, List.length_nil, List.length_set, List.length_replicate, Int.toNat_natCast]; omega)) [idf_Wd']; rfl) ?_)
  refine hK1 _ ?_
  refine AWP.seqk fun K2 hK2 => ?_
  refine AWP.region (AOPS.all (by simp (disch := first | omega | (simp only [List.length_append, List.length_cons, List.length_nil, List.length_set, List.length_replicate, Int.toNat_natCast]; omega)) [idf_Wd']; rfl) ?_)
  refine hK2 _ ?_
  refine AWP.seqk fun K3 hK3 => ?_
  refine AWP.region ?_
  refine AOPS.runk 2 (by simp (disch := first | omega | (simp only [List.length_append, List.length_cons, List.length_nil, List.length_set, List.length_replicate, Int.toNat_natCast]; omega)) [List.take_succ_cons, List.take_zero, idf_Wd']; rfl) ?_
  simp only [List.drop_succ_cons, List.drop_zero]
  refine AOPS.fcall (szLoopS_fc L hl hl2) rfl rfl rfl hb9 (by simp (disch := first | omega | (simp only [List.length_append, List.length_cons, List.length_nil, List.length_set, List.length_replicate, Int.toNat_natCast]; omega)) [idf_Wd', idf_Wd']) (by simp (disch := first | omega | (simp only [List.length_append, List.length_cons, List.length_nil, List.length_set, List.length_replicate, Int.toNat_natCast]; omega))) (by simp) ?_
  simp only [puts_some, updo]
  refine AOPS.all (by simp (disch := first | omega | (simp only [List.length_append, List.length_cons, List.length_nil, List.length_set, List.length_replicate, Int.toNat_natCast]; omega)) [idf_Wd']; rfl) ?_
  refine hK3 _ ?_
  refine AWP.seqk fun K4 hK4 => ?_
  refine AWP.seqk fun K5 hK5 => ?_
  refine AWP.region (AOPS.all (by simp (disch := first | omega | (simp only [List.length_append, List.length_cons, List.length_nil, List.length_set, List.length_replicate, Int.toNat_natCast]; omega)) [szT3, agT3, unT3, zoT3, byT3, idf_Wd']; rfl) ?_)
  refine hK5 _ ?_
  refine cond_ok _ (by simp (disch := first | omega | (simp only [List.length_append, List.length_cons, List.length_nil, List.length_set, List.length_replicate, Int.toNat_natCast]; omega)); rfl) (fun h11 => ?_) (fun h11 => ?_)
  · try simp only [decide_eq_true_eq, decide_eq_false_iff_not] at h11
    refine AWP.seqk fun K6 hK6 => ?_
    refine AWP.region (AOPS.all (by simp (disch := first | omega | (simp only [List.length_append, List.length_cons, List.length_nil, List.length_set, List.length_replicate, Int.toNat_natCast]; omega)) [idf_Wd']; rfl) ?_)
    refine hK6 _ ?_
    refine AWP.ret ?_
    exact hK _ _ _ _ trivial (Fin.mk (by simp (disch := first | omega | (simp only [List.length_append, List.length_cons, List.length_nil, List.length_set, List.length_replicate, Int.toNat_natCast]; omega)) [aRes, aResL, aRes1, idf_Wd']))
  · try simp only [decide_eq_true_eq, decide_eq_false_iff_not] at h11
    obtain ⟨m1, m2⟩ := szA_le (L := L) (n := 1048576) (by omega)
    have k1 : L.length ≤ 1048576 := by omega
    have k2 : ∀ l ∈ L, l.length ≤ 1048576 := fun l hm => by have := m2 l hm; omega
    refine AWP.skip ?_
    refine hK4 _ ?_
    refine AWP.seqk fun K7 hK7 => ?_
    refine AWP.region ?_
    refine AOPS.runk 1 (by simp (disch := first | omega | (simp only [List.length_append, List.length_cons, List.length_nil, List.length_set, List.length_replicate, Int.toNat_natCast]; omega)) [List.take_succ_cons, List.take_zero, idf_Wd']; rfl) ?_
    simp only [List.drop_succ_cons, List.drop_zero]
    refine AOPS.fcall (toLoopS_fc L k1 k2) rfl rfl rfl hb11 (by simp (disch := first | omega | (simp only [List.length_append, List.length_cons, List.length_nil, List.length_set, List.length_replicate, Int.toNat_natCast]; omega)) [idf_Wd', idf_Wd']) (by simp (disch := first | omega | (simp only [List.length_append, List.length_cons, List.length_nil, List.length_set, List.length_replicate, Int.toNat_natCast]; omega))) (by simp) ?_
    simp only [puts_some, updo]
    refine AOPS.fcall (loopsOkS_fc L hL (by omega) (fun l hm => by have := k2 l hm; omega)) rfl rfl rfl hb10 (by simp (disch := first | omega | (simp only [List.length_append, List.length_cons, List.length_nil, List.length_set, List.length_replicate, Int.toNat_natCast]; omega)) [idf_Wd', idf_Wd']) (by simp (disch := first | omega | (simp only [List.length_append, List.length_cons, List.length_nil, List.length_set, List.length_replicate, Int.toNat_natCast]; omega))) (by simp) ?_
    simp only [puts_some, updo]
    refine AOPS.all (by simp (disch := first | omega | (simp only [List.length_append, List.length_cons, List.length_nil, List.length_set, List.length_replicate, Int.toNat_natCast]; omega)) [idf_Wd']; rfl) ?_
    refine hK7 _ ?_
    refine AWP.seqk fun K8 hK8 => ?_
    refine AWP.region ?_
    refine AOPS.runk 1 (by simp (disch := first | omega | (simp only [List.length_append, List.length_cons, List.length_nil, List.length_set, List.length_replicate, Int.toNat_natCast]; omega)) [List.take_succ_cons, List.take_zero, idf_Wd']; rfl) ?_
    simp only [List.drop_succ_cons, List.drop_zero]
    refine AOPS.fcall (toLoopS_fc L k1 k2) rfl rfl rfl hb11 (by simp (disch := first | omega | (simp only [List.length_append, List.length_cons, List.length_nil, List.length_set, List.length_replicate, Int.toNat_natCast]; omega)) [idf_Wd', idf_Wd']) (by simp (disch := first | omega | (simp only [List.length_append, List.length_cons, List.length_nil, List.length_set, List.length_replicate, Int.toNat_natCast]; omega))) (by simp) ?_
    simp only [puts_some, updo]
    refine AOPS.all (by simp (disch := first | omega | (simp only [List.length_append, List.length_cons, List.length_nil, List.length_set, List.length_replicate, Int.toNat_natCast]; omega)) [idf_Wd']; rfl) ?_
    refine hK8 _ ?_
    refine AWP.seqk fun K9 hK9 => ?_
    refine AWP.region ?_
    refine AOPS.runk 1 (by simp (disch := first | omega | (simp only [List.length_append, List.length_cons, List.length_nil, List.length_set, List.length_replicate, Int.toNat_natCast]; omega)) [List.take_succ_cons, List.take_zero, idf_Wd']; rfl) ?_
    simp only [List.drop_succ_cons, List.drop_zero]
    refine AOPS.fcall (loopsOkI_fc L hL (by omega) (fun l hm => by have := k2 l hm; omega)) rfl rfl rfl hb12 (by simp (disch := first | omega | (simp only [List.length_append, List.length_cons, List.length_nil, List.length_set, List.length_replicate, Int.toNat_natCast]; omega)) [idf_Wd', idf_Wd']) (by simp (disch := first | omega | (simp only [List.length_append, List.length_cons, List.length_nil, List.length_set, List.length_replicate, Int.toNat_natCast]; omega))) (by simp) ?_
    simp only [puts_some, updo]
    refine AOPS.all (by simp (disch := first | omega | (simp only [List.length_append, List.length_cons, List.length_nil, List.length_set, List.length_replicate, Int.toNat_natCast]; omega)) [idf_Wd']; rfl) ?_
    refine hK9 _ ?_
    refine AWP.seqk fun K10 hK10 => ?_
    refine AWP.seqk fun K11 hK11 => ?_
    refine AWP.region (AOPS.all (by simp (disch := first | omega | (simp only [List.length_append, List.length_cons, List.length_nil, List.length_set, List.length_replicate, Int.toNat_natCast]; omega)) [szT4, agT4, unT4, zoT4, byT4, idf_Wd']; rfl) ?_)
    refine hK11 _ ?_
    refine cond_ok (lOk L != lOk L) (by simp (disch := first | omega | (simp only [List.length_append, List.length_cons, List.length_nil, List.length_set, List.length_replicate, Int.toNat_natCast]; omega))) (fun h21 => ?_) (fun h21 => ?_)
    · simp at h21
    · try simp only [decide_eq_true_eq, decide_eq_false_iff_not] at h21
      refine AWP.skip ?_
      refine hK10 _ ?_
      refine AWP.seqk fun K12 hK12 => ?_
      refine AWP.seqk fun K13 hK13 => ?_
      refine AWP.region ?_
      refine AOPS.runk 2 (by simp (disch := first | omega | (simp only [List.length_append, List.length_cons, List.length_nil, List.length_set, List.length_replicate, Int.toNat_natCast]; omega)) [List.take_succ_cons, List.take_zero, idf_Wd']; rfl) ?_
      simp only [List.drop_succ_cons, List.drop_zero]
      refine AOPS.fcall (toLoopS_fc L k1 k2) rfl rfl rfl hb11 (by simp (disch := first | omega | (simp only [List.length_append, List.length_cons, List.length_nil, List.length_set, List.length_replicate, Int.toNat_natCast]; omega)) [idf_Wd', idf_Wd']) (by simp (disch := first | omega | (simp only [List.length_append, List.length_cons, List.length_nil, List.length_set, List.length_replicate, Int.toNat_natCast]; omega))) (by simp) ?_
      simp only [puts_some, updo]
      refine AOPS.fcall (eqLoopS_fc L hl hl2) rfl rfl rfl hb13 (by simp (disch := first | omega | (simp only [List.length_append, List.length_cons, List.length_nil, List.length_set, List.length_replicate, Int.toNat_natCast]; omega)) [idf_Wd', idf_Wd']) (by simp (disch := first | omega | (simp only [List.length_append, List.length_cons, List.length_nil, List.length_set, List.length_replicate, Int.toNat_natCast]; omega))) (by simp) ?_
      simp only [puts_some, updo]
      refine AOPS.all (by simp (disch := first | omega | (simp only [List.length_append, List.length_cons, List.length_nil, List.length_set, List.length_replicate, Int.toNat_natCast]; omega)) [idf_Wd']; rfl) ?_
      refine hK13 _ ?_
      refine cond_ok _ (by simp (disch := first | omega | (simp only [List.length_append, List.length_cons, List.length_nil, List.length_set, List.length_replicate, Int.toNat_natCast]; omega)); rfl) (fun h26 => ?_) (fun h26 => ?_)
      · simp at h26
      · try simp only [decide_eq_true_eq, decide_eq_false_iff_not] at h26
        refine AWP.skip ?_
        refine hK12 _ ?_
        refine AWP.seqk fun K14 hK14 => ?_
        refine AWP.region (AOPS.all (by simp (disch := first | omega | (simp only [List.length_append, List.length_cons, List.length_nil, List.length_set, List.length_replicate, Int.toNat_natCast]; omega)) [idf_Wd']; rfl) ?_)
        refine hK14 _ ?_
        refine AWP.ret ?_
        exact hK _ _ _ _ trivial (Fin.mk (by simp (disch := first | omega | (simp only [List.length_append, List.length_cons, List.length_nil, List.length_set, List.length_replicate, Int.toNat_natCast]; omega)) [aRes, aResL, aRes1, idf_Wd']))

end Go.Proofs.Ytdcggmbnjonemaa
