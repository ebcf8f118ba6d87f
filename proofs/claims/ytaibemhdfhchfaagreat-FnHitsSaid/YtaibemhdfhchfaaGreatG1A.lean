/- Walks: hits of the reference, told. -/
import Derived.Test.YtaibemhdfhchfaaGreatG19

namespace Go.Proofs.YtaibemhdfhchfaaGreat
open Go Go.RowKit
set_option linter.unusedSimpArgs false
set_option linter.unusedVariables false
set_option maxRecDepth 100000
attribute [local simp] szT3 byT3 agT3 unT3 zoT3 szT27 byT27 agT27 flT27 fdT27_0 fdT27_1 fdT27_2 fdT27_3 zoT27 szT29 byT29 agT29 flT29 fdT29_0 fdT29_1 fdT29_2 zoT29 szT32 byT32 agT32 elT32 unT32 zoT32 szT54 byT54 agT54 elT54 unT54 zoT54 szT60 byT60 agT60 flT60 fdT60_0 fdT60_1 zoT60 szT127 byT127 agT127 flT127 fdT127_0 fdT127_1 zoT127 szT129 byT129 agT129 flT129 fdT129_0 fdT129_1 fdT129_2 zoT129 szT163 byT163 agT163 elT163 unT163 zoT163

theorem l8On_fc (L : List Sg) (g : GP) (hl : L.length ≤ 1048576) (z2 : ∀ s ∈ L,s.good = true) : FC Tryz.prog 136 [.isl (L.map Sg.cells),l3A g.1.x.v g.1.y.v g.1.w.v] (Wd .i64 (onL L g.1)) :=
  FC.of_own (z:=1) (es:=wd .i64 (onL L g.1)) (mk:=fun id=>.osl id 0 (onL L g.1).length) (by simp [idfL,idf,idfLL_iff,Sg.cells,l3A,l3C,idf_Wd']) (by simp [idf_Wd']) (fun id=>fz_wd rfl) fun nx=>l8On_own L g hl z2 nx

section
attribute [local simp] idf_numS cells_numS numS_fold idf_numI cells_numI numI_fold Sp.av Sp.cells Sg.av Sg.cells l3A l3C Pt.cells
set_option maxHeartbeats 4000000 in
theorem hitsS_own (L : List Sg) (hl : L.length ≤ 1099511627776) (hz : sgF L = 0) (nx : Nat) : ACall Tryz.prog 42 [.isl (L.map Sg.cells)] (fun _=>none) nx (own1 nx 13 (hitR L) (fun id=>.tup [.osl id 0 (hitP L).length,.bool true])):=by
 obtain ⟨z1,z2⟩:=sgF_zero hz
 have hd : decide (sgF L = 0) = true:=decide_eq_true hz
 have hpb : (hitP L).length ≤ 1680:=by rw [hitP_len]; exact ded_b z1 (Nat.le_refl _)
 refine .b Tryz.func42 41 fun K hK=>?_
 refine .q ?_
 refine .sq fun K2 hK2=>?_
 refine .sq fun K3 hK3=>?_
 refine .region ?_
 refine .kf 1 (l7Ok_fc L hl) hb89 ?_ (by simp (disch:=first|omega|(simp only[ln];omega)) [List.take_succ_cons,List.take_zero,hd]; rfl) (ha:=by simp (disch:=first|omega|(simp only[ln];omega)) [idf_Wd',hd])
 refine .e ?_ (by simp (disch:=first|omega|(simp only[ln];omega)) [hd]; rfl)
 refine hK3 _ ?_
 refine .c (t:=false) (fun h11=>?_) (fun h11=>?_)
 ·simp at h11
 ·try simp only[dc]at h11
  refine .skip ?_
  refine hK2 _ ?_
  refine .sq fun K4 hK4=>?_
  refine .region ?_
  refine .kf 1 (l8Points_fc L z1 z2) hb134 ?_
  refine .e ?_
  refine hK4 _ ?_
  refine .q ?_
  refine .sq fun K6 hK6=>?_
  refine .q ?_
  refine .block ?_
  
  refine .loop (fun N s=>∃ j : Nat,∃ C : List (List AV),∃ io : Nat,N = (hitP L).length - j ∧ j ≤ (hitP L).length ∧ (C = ((hitP L).take j).map (hitC L)) ∧ (nx ≤ io) ∧ s.env 0 = .isl (L.map Sg.cells) ∧ s.env 4 = .isl ((hitP L).map cellS) ∧ s.env 5 = .osl io 0 j ∧ s.env 6 = .int .i64 (j : Int) ∧ s.heap io = some (13,C) ∧ io < s.nx ∧ s.nt = 41) ((hitP L).length) (by refine ⟨0,[],nx,by omega,by omega,rfl,by omega,?_,?_,?_,?_,?_,?_,rfl⟩ <;> first|(simp (disch:=omega);done)|omega|(simp;done)|(simp;omega)) ?_
  rintro N ⟨e,H,mm,nt⟩ ⟨j,C,io,rfl,hj,hC,hio,g0,g4,g5,g6,Ho,xo,rfl⟩
  simp only [] at g0 g4 g5 g6 Ho xo
  refine .sq fun K8 hK8=>?_
  refine .q ?_ (by simp (disch:=first|omega|(simp only[ln];omega)) [g4,g6,List.length_map]; rfl)
  refine .c (fun h18=>?_) (fun h18=>?_)
  ·try simp only[dc]at h18
   have hj' : j < (hitP L).length:=by omega
   obtain ⟨g,hg⟩ : ∃ g,(hitP L)[j]? = some g:=⟨_,List.getElem?_eq_getElem hj'⟩
   have hatj : ((hitP L).map cellS)[j]? = some (cellS g):=by rw [List.getElem?_map,hg]; rfl
   have haej : ∀ h : j < ((hitP L).map cellS).length,((hitP L).map cellS)[j] = cellS g:=fun h=>by rw [List.getElem?_eq_getElem h] at hatj; simpa using hatj
   have hCl : C.length = j:=by rw [hC,List.length_map,List.length_take]; omega
   have hC' : C ++ [hitC L g] = ((hitP L).take (j + 1)).map (hitC L):=by rw [hC,List.take_add_one,hg]; simp
   have hc1 : (C.length + 1) * 120 ≤ 140737488355328:=by omega
   have hc2 : C.length ≤ 9223372036854775806:=by omega
   have htk : List.take j C = C:=List.take_of_length_le (Nat.le_of_eq hCl)
   have hap : hitC L g = Pt.cells g.1 ++ [Wd .i64 (onL L g.1)]:=rfl
   simp only [cellS,l3C] at hatj haej
   refine .skip ?_
   refine hK8 _ ?_
   refine .sq fun K10 hK10=>?_
   refine .block ?_
   refine .sq fun K11 hK11=>?_
   refine .region ?_
   refine .kf 4 (l3PointG g) hb135 ?_ (by simp (disch:=first|omega|(simp only[ln];omega)) [List.take_succ_cons,List.take_zero,if_pos,g0,g4,g5,g6,Ho,hatj,haej,hj',List.length_map]; rfl) (ha:=by simp (disch:=first|omega|(simp only[ln];omega)) [idf_Wd',if_pos,g0,g4,g5,g6,Ho,hatj,haej,hj',List.length_map])
   refine .e ?_ (by simp (disch:=first|omega|(simp only[ln];omega)) [if_pos,g0,g4,g5,g6,Ho,hatj,haej,hj',List.length_map]; rfl)
   refine hK11 _ ?_
   refine AWP.drawT 10 Tryz.checked.mixed (by kernel_rfl) (by kernel_rfl) ?_
   simp only [List.take_succ_cons,List.take_zero,List.drop_succ_cons,List.drop_zero]
   refine .k 7 (fun fs12 hfs12=>?_) (by simp (disch:=first|omega|(simp only[ln];omega)) [runDf.eq_def,runF1,runF2,stepF.eq_def,updo.eq_def,hupo.eq_def,opSto1.eq_def,List.take_succ_cons,List.take_zero,if_pos,g0,g4,g5,g6,Ho,hatj,haej,hj',hc1,hc2,hCl,htk,hap,List.length_map]; rfl)
   refine .f (l8On_fc L g (by omega) z2) hb136 ?_ (ha:=by simp (disch:=first|omega|(simp only[ln];omega)) [idf_Wd',if_pos,g0,g4,g5,g6,Ho,hatj,haej,hj',hc1,hc2,hCl,htk,hap,List.length_map])
   refine .k 2 (fun fs13 hfs13=>?_) (by simp (disch:=first|omega|(simp only[ln];omega)) [runDf.eq_def,runF1,runF2,stepF.eq_def,updo.eq_def,hupo.eq_def,opSto1.eq_def,List.take_succ_cons,List.take_zero,if_pos,g0,g4,g5,g6,Ho,hatj,haej,hj',hc1,hc2,hCl,htk,hap,List.length_map]; rfl)
   simp only [DP]
   refine AOPS.opapp (by simp (disch:=first|omega|(simp only[ln];omega)) [opApp.eq_def,aSrc_isl,aSrc_osl,aSrc_nsl,aSrc_int,wd_app,wd_app2,if_pos,wd_append,wd_take,wd_drop,List.nil_append,g0,g4,g5,g6,Ho,hatj,haej,hj',hc1,hc2,hCl,htk,hap,List.length_map,src_Wd' (P:=Tryz.prog) elT54]; first | rfl | exact ⟨rfl,rfl⟩ | exact ⟨rfl,rfl,rfl⟩) (by simp) (by simp) ?_
   simp only [puts_some,hdrop]
   refine .e ?_ (by simp (disch:=first|omega|(simp only[ln];omega)) [if_pos,g0,g4,g5,g6,Ho,hatj,haej,hj',hc1,hc2,hCl,htk,hap,List.length_map]; rfl)
   refine hK10 _ ?_
   refine .r ?_ (by simp (disch:=first|omega|(simp only[ln];omega)) [g6]; rfl)
   refine ⟨(hitP L).length - (j + 1),by omega,j + 1,(C ++ [hitC L g]),(mm + 1 + 10),rfl,by omega,hC',by omega,?_,?_,?_,?_,?_,?_,rfl⟩ <;> first|(simp (disch:=omega) [g0,g4,g5,g6,Ho,hCl,hap,htk,Pt.cells];done)|omega|(simp;done)|(simp;omega)
  ·try simp only[dc]at h18
   have hjn : j = (hitP L).length:=by omega
   subst hjn
   have hCR : C = hitR L:=by rw [hC,List.take_length]; rfl
   subst hCR
   refine .exit ?_
   refine hK6 _ ?_
   refine .q ?_ (by simp (disch:=first|omega|(simp only[ln];omega)) [g5]; rfl)
   refine .ret ?_
   exact hK _ _ _ _ _ trivial (Fin.own1 (Fin.mk (by simp (disch:=omega) [aRes,aResL,aRes1]; try rfl)) (id:=io) (by first|exact Ho|simp [Ho])) (⟨io,by first | omega | (simp; done) | (simp; omega),by first | omega | (simp; done) | (simp; omega),rfl,rfl⟩)
end
section
attribute [local simp] idf_numS cells_numS numS_fold idf_numI cells_numI numI_fold Sp.av Sp.cells Sg.av Sg.cells
set_option maxHeartbeats 1000000 in
theorem hitsS_no (L : List Sg) (hl : L.length ≤ 1099511627776) (hz : ¬ sgF L = 0) : FC Tryz.prog 42 [.isl (L.map Sg.cells)] (.tup [.nsl,.bool false]):=by
 have hd : decide (sgF L = 0) = false:=decide_eq_false hz
 refine .b Tryz.func42 41 (fun nx K hK=>?_) (hi:=by simp [idfL,idf,idfLL_iff,Sg.cells,Pt.av,Pt.cells])
 refine .q ?_
 refine .sq fun K2 hK2=>?_
 refine .sq fun K3 hK3=>?_
 refine .region ?_
 refine .kf 1 (l7Ok_fc L hl) hb89 ?_ (by simp (disch:=first|omega|(simp only[ln];omega)) [List.take_succ_cons,List.take_zero,hd]; rfl) (ha:=by simp (disch:=first|omega|(simp only[ln];omega)) [idf_Wd',hd])
 refine .e ?_ (by simp (disch:=first|omega|(simp only[ln];omega)) [hd]; rfl)
 refine hK3 _ ?_
 refine .c (t:=true) (fun h11=>?_) (fun h11=>?_)
 ·try simp only[dc]at h11
  refine .q ?_
  refine .ret ?_
  exact hK _ _ _ _ trivial ((Fin.mk (by simp (disch:=omega) [aRes,aResL,aRes1]; try rfl)))
 ·simp at h11
end
theorem hitsS_fc (L : List Sg) (hl : L.length ≤ 1099511627776) (hz : sgF L = 0) : FC Tryz.prog 42 [.isl (L.map Sg.cells)] (.tup [.isl (hitR L),.bool true]) :=
  FC.of_own (z:=13) (es:=hitR L) (mk:=fun id=>.tup [.osl id 0 (hitP L).length,.bool true]) (by simp [idfL,idf,idfLL_iff,Sg.cells,Pt.av,Pt.cells]) ⟨idf_hitR L,trivial,trivial⟩ (fun id=>by have h : fz id (hitR L) (.osl id 0 (hitP L).length) = .isl (hitR L):=fz_fill (hitC L) (hitP L) rfl; exact congrArg (fun x=>AV.tup [x,.bool true]) h) fun nx=>hitsS_own L hl hz nx

end Go.Proofs.YtaibemhdfhchfaaGreat

/- Walks: FnHits, walked. -/
namespace Go.Proofs.YtaibemhdfhchfaaGreat
open Go Go.RowKit
set_option linter.unusedSimpArgs false
set_option linter.unusedVariables false
set_option maxRecDepth 100000
attribute [local simp] szT2 byT2 agT2 unT2 zoT2 szT3 byT3 agT3 unT3 zoT3 szT4 byT4 agT4 unT4 zoT4 szT24 byT24 agT24 elT24 unT24 zoT24 szT27 byT27 agT27 flT27 fdT27_0 fdT27_1 fdT27_2 fdT27_3 zoT27 szT29 byT29 agT29 flT29 fdT29_0 fdT29_1 fdT29_2 zoT29 szT32 byT32 agT32 elT32 unT32 zoT32 szT38 byT38 agT38 flT38 fdT38_0 fdT38_1 zoT38 szT40 byT40 agT40 flT40 fdT40_0 fdT40_1 zoT40 szT54 byT54 agT54 elT54 unT54 zoT54 szT60 byT60 agT60 flT60 fdT60_0 fdT60_1 zoT60 szT75 byT75 agT75 elT75 unT75 zoT75

theorem onSF_G {s : Sg} (gs : s.good = true) (g : GP) : onSF s g.1 = onF s g.1:=by unfold onSF; rw [gs,g.2.2]; rfl
section
attribute [local simp] idf_numS cells_numS numS_fold idf_numI cells_numI numI_fold Sp.av Sp.cells Sg.av Sg.cells Pt.av Pt.cells
set_option maxHeartbeats 1000000 in
theorem hitAtF_fc (L : List Sg) (hl : L.length ≤ 1048576) (hz : sgF L = 0) (g : GP) : FC Tryz.prog 44 [.isl (L.map Sg.cells),.agg (Pt.cells g.1)] (Wd .i64 (onL L g.1)):=by
 obtain ⟨z1,z2⟩:=sgF_zero hz
 have hd : decide (sgF L = 0) = true:=decide_eq_true hz
 have hg:=g.2.2
 refine .b Tryz.func44 16 (fun nx K hK=>?_) (hi:=by simp [idfL,idf,idfLL_iff,Sg.cells,Pt.av,Pt.cells]) (hr:=by simp [idf_Wd'])
 refine .q ?_
 refine .sq fun K2 hK2=>?_
 refine .sq fun K3 hK3=>?_
 refine .region ?_
 refine .kf 1 (areSegs_fc L (by omega)) hb75 ?_ (by simp (disch:=first|omega|(simp only[ln];omega)) [List.take_succ_cons,List.take_zero,hd,hg]; rfl) (ha:=by simp (disch:=first|omega|(simp only[ln];omega)) [idf_Wd',hd,hg])
 refine .kf 3 (pointOkI_fc g.1 g.2.1) hb76 ?_ (by simp (disch:=first|omega|(simp only[ln];omega)) [List.take_succ_cons,List.take_zero,hd,hg]; rfl) (ha:=by simp (disch:=first|omega|(simp only[ln];omega)) [idf_Wd',hd,hg])
 refine .e ?_ (by simp (disch:=first|omega|(simp only[ln];omega)) [hd,hg]; rfl)
 refine hK3 _ ?_
 refine .c (t:=false) (fun h12=>?_) (fun h12=>?_)
 ·simp at h12
 ·try simp only[dc]at h12
  refine .skip ?_
  refine hK2 _ ?_
  refine .sq fun K4 hK4=>?_
  refine .region ?_
  refine .kf 2 (hitAt_fc L g.1 g.2.1 (by omega) z2) hb137 ?_
  refine .e ?_
  refine hK4 _ ?_
  refine .ret ?_
  exact hK _ _ _ _ trivial (Fin.m)
set_option maxHeartbeats 16000000 in
theorem fnHits_fc (l : List Int) (dl : Dig 256 l) : FC Tryz.prog 7 [Wd .u8 l] (.bool true):=by
 refine .b Tryz.func7 168 (fun nx K hK=>?_)
 refine .q ?_
 refine .sq fun K2 hK2=>?_
 refine .sq fun K3 hK3=>?_
 refine .region ?_
 refine .kf 1 (big_fc l) hb14 ?_
 refine .nil ?_
 refine hK3 _ ?_
 refine .c (t:=decide (1048576 < (l.length : Int))) (fun h13=>?_) (fun h13=>?_)
 ·try simp only[dc]at h13
  refine .q ?_
  refine .ret ?_
  exact hK _ _ _ _ trivial ((Fin.mk (r:=.bool true) (by simp [aRes,aResL,aRes1]; try rfl)))
 ·try simp only[dc]at h13
  have hl : l.length ≤ 1048576:=by omega
  refine .skip ?_
  refine hK2 _ ?_
  refine .sq fun K5 hK5=>?_
  refine .region ?_
  refine .k 1 ?_
  refine AOPS.old fun hold1=>?_
  refine .a (drawHitsOf_ac l _ _ dl hl hold1) hb41 ?_
  rintro _ _ nx1 ⟨S,i2,rfl,So,Sl,rfl,hi1,hi2⟩
  try simp only [] at hi1 hi2
  clear hold1
  refine .e ?_
  refine hK5 _ ?_
  refine .sq fun K6 hK6=>?_
  refine AWP.frz1 3 i2 4 (S.map Sg.cells) (.isl (S.map Sg.cells)) (by simp (disch:=omega)) (by simp (disch:=omega); exact fz_fill Sg.cells S rfl) ?_
  by_cases hz : sgF S = 0
  ·obtain ⟨z1,z2⟩:=sgF_zero hz
   have hl9 : S.length ≤ 1099511627776:=by omega
   have hpb : (hitP S).length ≤ 1680:=by rw [hitP_len]; exact ded_b z1 (Nat.le_refl _)
   have sf:=segsFaultI_fc S hl9
   rw [hz] at sf
   refine .region ?_
   refine .kf 1 (hitsOf_fc S hl9 hz) hb32 ?_
   refine .e ?_
   refine hK6 _ ?_
   refine .sq fun K7 hK7=>?_
   refine .region ?_
   refine .kf 1 (hitsS_fc S hl9 hz) hb42 ?_
   refine .e ?_
   refine hK7 _ ?_
   refine .sq fun K8 hK8=>?_
   refine .sq fun K9 hK9=>?_
   refine .region ?_
   refine .kf 13 sf hb43 ?_
   refine .e ?_
   refine hK9 _ ?_
   refine .c (t:=false) (fun h42=>?_) (fun h42=>?_)
   ·simp at h42
   ·try simp only[dc]at h42
    refine .skip ?_
    refine hK8 _ ?_
    refine .q ?_ (by simp (disch:=first|omega|(simp only[ln];omega)) [if_pos,List.length_map]; rfl)
    refine .sq fun K11 hK11=>?_
    refine .q ?_
    refine .block ?_
    
    refine .loop (fun N s=>∃ i : Nat,∃ ie : Nat,N = (hitP S).length - i ∧ i ≤ (hitP S).length ∧ s.env 3 = .isl (S.map Sg.cells) ∧ s.env 4 = .isl (hitR S) ∧ s.env 5 = .bool true ∧ s.env 6 = .isl (hitR S) ∧ s.env 8 = .osl ie 0 S.length ∧ s.env 9 = .int .i64 (i : Int) ∧ s.heap ie = some (1,wd .i64 (endL S i 0)) ∧ ie < s.nx ∧ s.nt = 168) ((hitP S).length) (by refine ⟨0,nx1,by omega,by omega,?_,?_,?_,?_,?_,?_,?_,?_,rfl⟩ <;> first|(simp (disch:=omega) [endL_zero];done)|omega|(simp;done)|(simp;omega)) ?_
    rintro N ⟨e,H,mm,nt⟩ ⟨i,ie,rfl,hi,g3,g4,g5,g6,g8,g9,He,xe,rfl⟩
    simp only [] at g3 g4 g5 g6 g8 g9 He xe
    refine .sq fun K13 hK13=>?_
    refine .q ?_ (by simp (disch:=first|omega|(simp only[ln];omega)) [g4,g9,hitR_len]; rfl)
    refine .c (fun h49=>?_) (fun h49=>?_)
    ·try simp only[dc]at h49
     have hi' : i < (hitP S).length:=by omega
     obtain ⟨g,hg⟩ : ∃ g,(hitP S)[i]? = some g:=⟨_,List.getElem?_eq_getElem hi'⟩
     have hati : (hitR S)[i]? = some (hitC S g):=by unfold hitR; rw [List.getElem?_map,hg]; rfl
     have haei : ∀ h2 : i < (hitR S).length,(hitR S)[i] = hitC S g:=fun h2=>by rw [List.getElem?_eq_getElem h2] at hati; simpa using hati
     simp only [hitC,Pt.cells,List.cons_append,List.nil_append] at hati haei
     have fA:=hitAtF_fc S (by omega) hz g
     have fS:=sameInts_fc (onL S g.1) (Nat.le_trans (onL_len S g.1) (by omega))
     have cgg : decide (g.1 = g.1) = true:=decide_eq_true rfl
     refine .skip ?_
     refine hK13 _ ?_
     refine .sq fun K15 hK15=>?_
     refine .block ?_
     refine .sq fun K16 hK16=>?_
     refine .sq fun K17 hK17=>?_
     by_cases hi0 : i = 0
     ·have hi1 : ¬ 0 < i:=by omega
      refine .d 46 ?_
      refine .k 16 (fun fs18 hfs18=>?_) (by simp (disch:=first|omega|(simp only[ln];omega)) [runDf.eq_def,runF1,runF2,stepF.eq_def,updo.eq_def,hupo.eq_def,opSto1.eq_def,List.take_succ_cons,List.take_zero,if_pos,g3,g4,g5,g6,g8,g9,He,hati,haei,hi',hi1,cgg,eqPt,hitR_len,List.length_map]; rfl)
      refine .k 16 (fun fs19 hfs19=>?_) (by simp (disch:=first|omega|(simp only[ln];omega)) [runDf.eq_def,runF1,runF2,stepF.eq_def,updo.eq_def,hupo.eq_def,opSto1.eq_def,List.take_succ_cons,List.take_zero,if_pos,g3,g4,g5,g6,g8,g9,He,hati,haei,hi',hi1,cgg,eqPt,hitR_len,List.length_map]; rfl)
      refine .k 10 (fun fs20 hfs20=>?_) (by simp (disch:=first|omega|(simp only[ln];omega)) [runDf.eq_def,runF1,runF2,stepF.eq_def,updo.eq_def,hupo.eq_def,opSto1.eq_def,List.take_succ_cons,List.take_zero,if_pos,g3,g4,g5,g6,g8,g9,He,hati,haei,hi',hi1,cgg,eqPt,hitR_len,List.length_map]; rfl)
      refine .f fA hb44 ?_ (ha:=by simp (disch:=first|omega|(simp only[ln];omega)) [idf_Wd',if_pos,g3,g4,g5,g6,g8,g9,He,hati,haei,hi',hi1,cgg,eqPt,hitR_len,List.length_map])
      refine .f fS hb17 ?_ (ha:=by simp (disch:=first|omega|(simp only[ln];omega)) [idf_Wd',if_pos,g3,g4,g5,g6,g8,g9,He,hati,haei,hi',hi1,cgg,eqPt,hitR_len,List.length_map])
      refine .k 2 (fun fs21 hfs21=>?_) (by simp (disch:=first|omega|(simp only[ln];omega)) [runDf.eq_def,runF1,runF2,stepF.eq_def,updo.eq_def,hupo.eq_def,opSto1.eq_def,List.take_succ_cons,List.take_zero,if_pos,g3,g4,g5,g6,g8,g9,He,hati,haei,hi',hi1,cgg,eqPt,hitR_len,List.length_map]; rfl)
      refine .r 46 (by simp only[ln,hfs18,hfs19,hfs20,hfs21];omega) ?_ (by simp (disch:=first|omega|(simp only[ln];omega)) [runDf.eq_def,runF1,runF2,stepF.eq_def,updo.eq_def,hupo.eq_def,opSto1.eq_def,if_pos,g3,g4,g5,g6,g8,g9,He,hati,haei,hi',hi1,cgg,eqPt,hitR_len,List.length_map]; rfl)
      refine hK17 _ ?_
      refine .c (t:=false) (fun h97=>?_) (fun h97=>?_)
      ·simp at h97
      ·try simp only[dc]at h97
       refine .skip ?_
       refine hK16 _ ?_
       refine .q ?_
       refine .block ?_
       
       refine .loop (fun N s=>∃ k : Nat,N = S.length - k ∧ k ≤ S.length ∧ s.env 3 = .isl (S.map Sg.cells) ∧ s.env 4 = .isl (hitR S) ∧ s.env 5 = .bool true ∧ s.env 6 = .isl (hitR S) ∧ s.env 8 = .osl ie 0 S.length ∧ s.env 9 = .int .i64 (i : Int) ∧ s.env 10 = .int .i64 (k : Int) ∧ s.heap ie = some (1,wd .i64 (endL S i k)) ∧ ie < s.nx ∧ s.nt = 168) (S.length) (by refine ⟨0,by omega,by omega,?_,?_,?_,?_,?_,?_,?_,?_,?_,rfl⟩ <;> first|(simp (disch:=omega) [g3,g4,g5,g6,g8,g9,He];done)|omega|(simp;done)|(simp;omega)) ?_
       clear g3 g4 g5 g6 g8 g9 He xe
       rintro N ⟨e,H,mm,nt⟩ ⟨k,rfl,hk,g3,g4,g5,g6,g8,g9,g10,He,xe,rfl⟩
       simp only [] at g3 g4 g5 g6 g8 g9 g10 He xe
       refine .sq fun K23 hK23=>?_
       refine .q ?_ (by simp (disch:=first|omega|(simp only[ln];omega)) [g3,g10,List.length_map]; rfl)
       refine .c (fun h101=>?_) (fun h101=>?_)
       ·try simp only[dc]at h101
        have hk' : k < S.length:=by omega
        have hatk0:=gq_get hk'
        obtain ⟨s0,hs0⟩ : ∃ s0,s0 = gq S k:=⟨_,rfl⟩
        have gs:=z2 _ (gq_mem hk')
        rw [← hs0] at gs
        have hatk : (S.map Sg.cells)[k]? = some (Sg.cells s0):=by rw [List.getElem?_map,hatk0,hs0]; rfl
        have haek : ∀ h : k < (S.map Sg.cells).length,(S.map Sg.cells)[k] = Sg.cells s0:=fun h=>by rw [List.getElem?_eq_getElem h] at hatk; simpa using hatk
        simp only [Sg.cells] at hatk haek
        have fH:=hasOn_fc (show S.length ≤ 1048576 by omega) hk' g.1
        rw [← hs0] at fH
        have fO:=onSegF_fc s0 g.1 g.2.1
        rw [onSF_G gs] at fO
        have pA:=pointOfI_fc s0.a (good_a gs)
        have pB:=pointOfI_fc s0.b (good_b gs)
        refine .skip ?_
        refine hK23 _ ?_
        refine .sq fun K25 hK25=>?_
        refine .block ?_
        refine .sq fun K26 hK26=>?_
        refine .sq fun K27 hK27=>?_
        refine .d 18 ?_
        refine .k 6 (fun fs28 hfs28=>?_) (by simp (disch:=first|omega|(simp only[ln];omega)) [runDf.eq_def,runF1,runF2,stepF.eq_def,updo.eq_def,hupo.eq_def,opSto1.eq_def,List.take_succ_cons,List.take_zero,if_pos,g3,g4,g5,g6,g8,g9,g10,He,hati,haei,hatk,haek,hi',hk',hitR_len,List.length_map]; rfl)
        refine .f fH hb19 ?_ (ha:=by simp (disch:=first|omega|(simp only[ln];omega)) [idf_Wd',if_pos,g3,g4,g5,g6,g8,g9,g10,He,hati,haei,hatk,haek,hi',hk',hitR_len,List.length_map])
        refine .k 9 (fun fs29 hfs29=>?_) (by simp (disch:=first|omega|(simp only[ln];omega)) [runDf.eq_def,runF1,runF2,stepF.eq_def,updo.eq_def,hupo.eq_def,opSto1.eq_def,List.take_succ_cons,List.take_zero,if_pos,g3,g4,g5,g6,g8,g9,g10,He,hati,haei,hatk,haek,hi',hk',hitR_len,List.length_map]; rfl)
        refine .f fO hb45 ?_ (ha:=by simp (disch:=first|omega|(simp only[ln];omega)) [idf_Wd',if_pos,g3,g4,g5,g6,g8,g9,g10,He,hati,haei,hatk,haek,hi',hk',hitR_len,List.length_map])
        refine .k 1 (fun fs30 hfs30=>?_) (by simp (disch:=first|omega|(simp only[ln];omega)) [runDf.eq_def,runF1,runF2,stepF.eq_def,updo.eq_def,hupo.eq_def,opSto1.eq_def,List.take_succ_cons,List.take_zero,if_pos,g3,g4,g5,g6,g8,g9,g10,He,hati,haei,hatk,haek,hi',hk',hitR_len,List.length_map]; rfl)
        refine .r 18 (by simp only[ln,hfs28,hfs29,hfs30];omega) ?_ (by simp (disch:=first|omega|(simp only[ln];omega)) [runDf.eq_def,runF1,runF2,stepF.eq_def,updo.eq_def,hupo.eq_def,opSto1.eq_def,if_pos,g3,g4,g5,g6,g8,g9,g10,He,hati,haei,hatk,haek,hi',hk',hitR_len,List.length_map]; rfl)
        refine hK27 _ ?_
        refine .c (t:=false) (fun h121=>?_) (fun h121=>?_)
        ·simp at h121
        ·try simp only[dc]at h121
         refine .skip ?_
         refine hK26 _ ?_
         refine .sq fun K31 hK31=>?_
         by_cases qa : g.1 = ptS s0.a
         ·have da : decide (g.1 = ptS s0.a) = true:=decide_eq_true qa
          have dE:=qa
          have hy : isE S k g = true:=by unfold isE; rw [← hs0]; simp [dE]
          obtain ⟨v,hv⟩ : ∃ v,v = gt (endL S i k) k:=⟨_,rfl⟩
          have hEs:=endL_yes hg hy hk'
          rw [← hv] at hEs
          have hvb:=endC_b S k i
          have hv2 : v = endC S k i:=by rw [hv,endL_gt hk',if_neg (by omega)]
          have hatE : (wd .i64 (endL S i k))[k]? = some [.int .i64 v]:=by rw [wd_at (by rw [endL_len]; exact hk'),hv]
          have haeE : ∀ h : k < (wd .i64 (endL S i k)).length,(wd .i64 (endL S i k))[k] = [.int .i64 v]:=fun h=>by rw [List.getElem?_eq_getElem h] at hatE; simpa using hatE
          have hset : (wd .i64 (endL S i k)).set k [.int .i64 (v + 1)] = wd .i64 (endL S i (k + 1)):=by rw [wd_set,hEs]
          have hEl : (wd .i64 (endL S i k)).length = S.length:=by rw [wd_len,endL_len]
          refine .d 26 ?_
          refine .k 10 (fun fs32 hfs32=>?_) (by simp (disch:=first|omega|(simp only[ln];omega)) [runDf.eq_def,runF1,runF2,stepF.eq_def,updo.eq_def,hupo.eq_def,opSto1.eq_def,List.take_succ_cons,List.take_zero,if_pos,g3,g4,g5,g6,g8,g9,g10,He,hati,haei,hatk,haek,hi',hk',hitR_len,List.length_map,eqPt,da]; rfl)
          refine .f pA hb46 ?_ (ha:=by simp (disch:=first|omega|(simp only[ln];omega)) [idf_Wd',if_pos,g3,g4,g5,g6,g8,g9,g10,He,hati,haei,hatk,haek,hi',hk',hitR_len,List.length_map,eqPt,da])
          refine .k 15 (fun fs33 hfs33=>?_) (by simp (disch:=first|omega|(simp only[ln];omega)) [runDf.eq_def,runF1,runF2,stepF.eq_def,updo.eq_def,hupo.eq_def,opSto1.eq_def,List.take_succ_cons,List.take_zero,if_pos,g3,g4,g5,g6,g8,g9,g10,He,hati,haei,hatk,haek,hi',hk',hitR_len,List.length_map,eqPt,da]; rfl)
          refine .r 26 (by simp only[ln,hfs32,hfs33];omega) ?_ (by simp (disch:=first|omega|(simp only[ln];omega)) [runDf.eq_def,runF1,runF2,stepF.eq_def,updo.eq_def,hupo.eq_def,opSto1.eq_def,if_pos,g3,g4,g5,g6,g8,g9,g10,He,hati,haei,hatk,haek,hi',hk',hitR_len,List.length_map,eqPt,da]; rfl)
          refine hK31 _ ?_
          refine .c (t:=true) (fun h147=>?_) (fun h147=>?_)
          ·try simp only[dc]at h147
           refine .r ?_ (by simp (disch:=first|omega|(simp only[ln];omega)) [idx_WdD (P:=Tryz.prog) elT75 szT3,if_pos,g3,g4,g5,g6,g8,g9,g10,He,hatE,haeE,hset,hEl,hk']; rfl)
           refine hK25 _ ?_
           refine .r ?_ (by simp (disch:=first|omega|(simp only[ln];omega)) [g10]; rfl)
           refine ⟨S.length - (k + 1),by omega,k + 1,rfl,by omega,?_,?_,?_,?_,?_,?_,?_,?_,?_,rfl⟩ <;> first|(simp (disch:=omega) [g3,g4,g5,g6,g8,g9,g10,He,hatE,haeE,hset,hEl];done)|omega|(simp;done)|(simp;omega)
          ·simp at h147
         ·have da : decide (g.1 = ptS s0.a) = false:=decide_eq_false qa
          by_cases qb : g.1 = ptS s0.b
          ·have db : decide (g.1 = ptS s0.b) = true:=decide_eq_true qb
           have dE:=qb
           have hy : isE S k g = true:=by unfold isE; rw [← hs0]; simp [dE]
           obtain ⟨v,hv⟩ : ∃ v,v = gt (endL S i k) k:=⟨_,rfl⟩
           have hEs:=endL_yes hg hy hk'
           rw [← hv] at hEs
           have hvb:=endC_b S k i
           have hv2 : v = endC S k i:=by rw [hv,endL_gt hk',if_neg (by omega)]
           have hatE : (wd .i64 (endL S i k))[k]? = some [.int .i64 v]:=by rw [wd_at (by rw [endL_len]; exact hk'),hv]
           have haeE : ∀ h : k < (wd .i64 (endL S i k)).length,(wd .i64 (endL S i k))[k] = [.int .i64 v]:=fun h=>by rw [List.getElem?_eq_getElem h] at hatE; simpa using hatE
           have hset : (wd .i64 (endL S i k)).set k [.int .i64 (v + 1)] = wd .i64 (endL S i (k + 1)):=by rw [wd_set,hEs]
           have hEl : (wd .i64 (endL S i k)).length = S.length:=by rw [wd_len,endL_len]
           refine .d 26 ?_
           refine .k 10 (fun fs34 hfs34=>?_) (by simp (disch:=first|omega|(simp only[ln];omega)) [runDf.eq_def,runF1,runF2,stepF.eq_def,updo.eq_def,hupo.eq_def,opSto1.eq_def,List.take_succ_cons,List.take_zero,if_pos,g3,g4,g5,g6,g8,g9,g10,He,hati,haei,hatk,haek,hi',hk',hitR_len,List.length_map,eqPt,da,db]; rfl)
           refine .f pA hb46 ?_ (ha:=by simp (disch:=first|omega|(simp only[ln];omega)) [idf_Wd',if_pos,g3,g4,g5,g6,g8,g9,g10,He,hati,haei,hatk,haek,hi',hk',hitR_len,List.length_map,eqPt,da,db])
           refine .k 12 (fun fs35 hfs35=>?_) (by simp (disch:=first|omega|(simp only[ln];omega)) [runDf.eq_def,runF1,runF2,stepF.eq_def,updo.eq_def,hupo.eq_def,opSto1.eq_def,List.take_succ_cons,List.take_zero,if_pos,g3,g4,g5,g6,g8,g9,g10,He,hati,haei,hatk,haek,hi',hk',hitR_len,List.length_map,eqPt,da,db]; rfl)
           refine .f pB hb46 ?_ (ha:=by simp (disch:=first|omega|(simp only[ln];omega)) [idf_Wd',if_pos,g3,g4,g5,g6,g8,g9,g10,He,hati,haei,hatk,haek,hi',hk',hitR_len,List.length_map,eqPt,da,db])
           refine .k 2 (fun fs36 hfs36=>?_) (by simp (disch:=first|omega|(simp only[ln];omega)) [runDf.eq_def,runF1,runF2,stepF.eq_def,updo.eq_def,hupo.eq_def,opSto1.eq_def,List.take_succ_cons,List.take_zero,if_pos,g3,g4,g5,g6,g8,g9,g10,He,hati,haei,hatk,haek,hi',hk',hitR_len,List.length_map,eqPt,da,db]; rfl)
           refine .r 26 (by simp only[ln,hfs34,hfs35,hfs36];omega) ?_ (by simp (disch:=first|omega|(simp only[ln];omega)) [runDf.eq_def,runF1,runF2,stepF.eq_def,updo.eq_def,hupo.eq_def,opSto1.eq_def,if_pos,g3,g4,g5,g6,g8,g9,g10,He,hati,haei,hatk,haek,hi',hk',hitR_len,List.length_map,eqPt,da,db]; rfl)
           refine hK31 _ ?_
           refine .c (t:=true) (fun h147=>?_) (fun h147=>?_)
           ·try simp only[dc]at h147
            refine .r ?_ (by simp (disch:=first|omega|(simp only[ln];omega)) [idx_WdD (P:=Tryz.prog) elT75 szT3,if_pos,g3,g4,g5,g6,g8,g9,g10,He,hatE,haeE,hset,hEl,hk']; rfl)
            refine hK25 _ ?_
            refine .r ?_ (by simp (disch:=first|omega|(simp only[ln];omega)) [g10]; rfl)
            refine ⟨S.length - (k + 1),by omega,k + 1,rfl,by omega,?_,?_,?_,?_,?_,?_,?_,?_,?_,rfl⟩ <;> first|(simp (disch:=omega) [g3,g4,g5,g6,g8,g9,g10,He,hatE,haeE,hset,hEl];done)|omega|(simp;done)|(simp;omega)
           ·simp at h147
          ·have db : decide (g.1 = ptS s0.b) = false:=decide_eq_false qb
           have hEn:=endL_no (k:=k) hg (by unfold isE; rw [← hs0,da,db]; rfl)
           refine .d 26 ?_
           refine .k 10 (fun fs37 hfs37=>?_) (by simp (disch:=first|omega|(simp only[ln];omega)) [runDf.eq_def,runF1,runF2,stepF.eq_def,updo.eq_def,hupo.eq_def,opSto1.eq_def,List.take_succ_cons,List.take_zero,if_pos,g3,g4,g5,g6,g8,g9,g10,He,hati,haei,hatk,haek,hi',hk',hitR_len,List.length_map,eqPt,da,db]; rfl)
           refine .f pA hb46 ?_ (ha:=by simp (disch:=first|omega|(simp only[ln];omega)) [idf_Wd',if_pos,g3,g4,g5,g6,g8,g9,g10,He,hati,haei,hatk,haek,hi',hk',hitR_len,List.length_map,eqPt,da,db])
           refine .k 12 (fun fs38 hfs38=>?_) (by simp (disch:=first|omega|(simp only[ln];omega)) [runDf.eq_def,runF1,runF2,stepF.eq_def,updo.eq_def,hupo.eq_def,opSto1.eq_def,List.take_succ_cons,List.take_zero,if_pos,g3,g4,g5,g6,g8,g9,g10,He,hati,haei,hatk,haek,hi',hk',hitR_len,List.length_map,eqPt,da,db]; rfl)
           refine .f pB hb46 ?_ (ha:=by simp (disch:=first|omega|(simp only[ln];omega)) [idf_Wd',if_pos,g3,g4,g5,g6,g8,g9,g10,He,hati,haei,hatk,haek,hi',hk',hitR_len,List.length_map,eqPt,da,db])
           refine .k 2 (fun fs39 hfs39=>?_) (by simp (disch:=first|omega|(simp only[ln];omega)) [runDf.eq_def,runF1,runF2,stepF.eq_def,updo.eq_def,hupo.eq_def,opSto1.eq_def,List.take_succ_cons,List.take_zero,if_pos,g3,g4,g5,g6,g8,g9,g10,He,hati,haei,hatk,haek,hi',hk',hitR_len,List.length_map,eqPt,da,db]; rfl)
           refine .r 26 (by simp only[ln,hfs37,hfs38,hfs39];omega) ?_ (by simp (disch:=first|omega|(simp only[ln];omega)) [runDf.eq_def,runF1,runF2,stepF.eq_def,updo.eq_def,hupo.eq_def,opSto1.eq_def,if_pos,g3,g4,g5,g6,g8,g9,g10,He,hati,haei,hatk,haek,hi',hk',hitR_len,List.length_map,eqPt,da,db]; rfl)
           refine hK31 _ ?_
           refine .c (t:=false) (fun h147=>?_) (fun h147=>?_)
           ·simp at h147
           ·try simp only[dc]at h147
            refine .skip ?_
            refine hK25 _ ?_
            refine .r ?_ (by simp (disch:=first|omega|(simp only[ln];omega)) [g10]; rfl)
            refine ⟨S.length - (k + 1),by omega,k + 1,rfl,by omega,?_,?_,?_,?_,?_,?_,?_,?_,?_,rfl⟩ <;> first|(simp (disch:=omega) [g3,g4,g5,g6,g8,g9,g10,He,hEn];done)|omega|(simp;done)|(simp;omega)
       ·try simp only[dc]at h101
        have hkn : k = S.length:=by omega
        have hEx : endL S (i + 1) 0 = endL S i k:=by rw [hkn,endL_next]
        refine .exit ?_
        refine hK15 _ ?_
        refine .r ?_ (by simp (disch:=first|omega|(simp only[ln];omega)) [g9]; rfl)
        refine ⟨(hitP S).length - (i + 1),by omega,i + 1,ie,rfl,by omega,?_,?_,?_,?_,?_,?_,?_,?_,rfl⟩ <;> first|(simp (disch:=omega) [g3,g4,g5,g6,g8,g9,g10,He,hEx];done)|omega|(simp;done)|(simp;omega)
     ·obtain ⟨j,hj⟩ : ∃ j,i = j + 1:=⟨i - 1,by omega⟩
      have hj2 : j < (hitP S).length:=by omega
      have hji : (i : Int) - 1 = (j : Int):=by omega
      have hi1 : 0 < i:=by omega
      obtain ⟨e,he⟩ : ∃ e,(hitP S)[j]? = some e:=⟨_,List.getElem?_eq_getElem hj2⟩
      have hatj : (hitR S)[j]? = some (hitC S e):=by unfold hitR; rw [List.getElem?_map,he]; rfl
      have haej : ∀ h2 : j < (hitR S).length,(hitR S)[j] = hitC S e:=fun h2=>by rw [List.getElem?_eq_getElem h2] at hatj; simpa using hatj
      simp only [hitC,Pt.cells,List.cons_append,List.nil_append] at hatj haej
      have fC:=pointCmpI_fc e.1 g.1 e.2.1 g.2.1
      have hlt : cmV e.1 g.1 < 0:=hitP_lt he (by rw [← hj]; exact hg)
      rw [oc_good e.2.2 g.2.2] at fC
      obtain ⟨c,hc⟩ : ∃ c,c = cmV e.1 g.1:=⟨_,rfl⟩
      rw [← hc] at fC hlt
      have hc0 : decide (0 ≤ c) = false:=by simp; omega
      refine .d 46 ?_
      refine .k 16 (fun fs40 hfs40=>?_) (by simp (disch:=first|omega|(simp only[ln];omega)) [runDf.eq_def,runF1,runF2,stepF.eq_def,updo.eq_def,hupo.eq_def,opSto1.eq_def,List.take_succ_cons,List.take_zero,if_pos,g3,g4,g5,g6,g8,g9,He,hati,haei,hatj,haej,hi',hi1,hj2,hji,hc0,cgg,eqPt,hitR_len,List.length_map]; rfl)
      refine .k 10 (fun fs41 hfs41=>?_) (by simp (disch:=first|omega|(simp only[ln];omega)) [runDf.eq_def,runF1,runF2,stepF.eq_def,updo.eq_def,hupo.eq_def,opSto1.eq_def,List.take_succ_cons,List.take_zero,if_pos,g3,g4,g5,g6,g8,g9,He,hati,haei,hatj,haej,hi',hi1,hj2,hji,hc0,cgg,eqPt,hitR_len,List.length_map]; rfl)
      refine .f fC hb40 ?_ (ha:=by simp (disch:=first|omega|(simp only[ln];omega)) [idf_Wd',if_pos,g3,g4,g5,g6,g8,g9,He,hati,haei,hatj,haej,hi',hi1,hj2,hji,hc0,cgg,eqPt,hitR_len,List.length_map])
      refine .k 15 (fun fs42 hfs42=>?_) (by simp (disch:=first|omega|(simp only[ln];omega)) [runDf.eq_def,runF1,runF2,stepF.eq_def,updo.eq_def,hupo.eq_def,opSto1.eq_def,List.take_succ_cons,List.take_zero,if_pos,g3,g4,g5,g6,g8,g9,He,hati,haei,hatj,haej,hi',hi1,hj2,hji,hc0,cgg,eqPt,hitR_len,List.length_map]; rfl)
      refine .f fA hb44 ?_ (ha:=by simp (disch:=first|omega|(simp only[ln];omega)) [idf_Wd',if_pos,g3,g4,g5,g6,g8,g9,He,hati,haei,hatj,haej,hi',hi1,hj2,hji,hc0,cgg,eqPt,hitR_len,List.length_map])
      refine .f fS hb17 ?_ (ha:=by simp (disch:=first|omega|(simp only[ln];omega)) [idf_Wd',if_pos,g3,g4,g5,g6,g8,g9,He,hati,haei,hatj,haej,hi',hi1,hj2,hji,hc0,cgg,eqPt,hitR_len,List.length_map])
      refine .k 2 (fun fs43 hfs43=>?_) (by simp (disch:=first|omega|(simp only[ln];omega)) [runDf.eq_def,runF1,runF2,stepF.eq_def,updo.eq_def,hupo.eq_def,opSto1.eq_def,List.take_succ_cons,List.take_zero,if_pos,g3,g4,g5,g6,g8,g9,He,hati,haei,hatj,haej,hi',hi1,hj2,hji,hc0,cgg,eqPt,hitR_len,List.length_map]; rfl)
      refine .r 46 (by simp only[ln,hfs40,hfs41,hfs42,hfs43];omega) ?_ (by simp (disch:=first|omega|(simp only[ln];omega)) [runDf.eq_def,runF1,runF2,stepF.eq_def,updo.eq_def,hupo.eq_def,opSto1.eq_def,if_pos,g3,g4,g5,g6,g8,g9,He,hati,haei,hatj,haej,hi',hi1,hj2,hji,hc0,cgg,eqPt,hitR_len,List.length_map]; rfl)
      refine hK17 _ ?_
      refine .c (t:=false) (fun h97=>?_) (fun h97=>?_)
      ·simp at h97
      ·try simp only[dc]at h97
       refine .skip ?_
       refine hK16 _ ?_
       refine .q ?_
       refine .block ?_
       
       refine .loop (fun N s=>∃ k : Nat,N = S.length - k ∧ k ≤ S.length ∧ s.env 3 = .isl (S.map Sg.cells) ∧ s.env 4 = .isl (hitR S) ∧ s.env 5 = .bool true ∧ s.env 6 = .isl (hitR S) ∧ s.env 8 = .osl ie 0 S.length ∧ s.env 9 = .int .i64 (i : Int) ∧ s.env 10 = .int .i64 (k : Int) ∧ s.heap ie = some (1,wd .i64 (endL S i k)) ∧ ie < s.nx ∧ s.nt = 168) (S.length) (by refine ⟨0,by omega,by omega,?_,?_,?_,?_,?_,?_,?_,?_,?_,rfl⟩ <;> first|(simp (disch:=omega) [g3,g4,g5,g6,g8,g9,He];done)|omega|(simp;done)|(simp;omega)) ?_
       clear g3 g4 g5 g6 g8 g9 He xe
       rintro N ⟨e,H,mm,nt⟩ ⟨k,rfl,hk,g3,g4,g5,g6,g8,g9,g10,He,xe,rfl⟩
       simp only [] at g3 g4 g5 g6 g8 g9 g10 He xe
       refine .sq fun K45 hK45=>?_
       refine .q ?_ (by simp (disch:=first|omega|(simp only[ln];omega)) [g3,g10,List.length_map]; rfl)
       refine .c (fun h101=>?_) (fun h101=>?_)
       ·try simp only[dc]at h101
        have hk' : k < S.length:=by omega
        have hatk0:=gq_get hk'
        obtain ⟨s0,hs0⟩ : ∃ s0,s0 = gq S k:=⟨_,rfl⟩
        have gs:=z2 _ (gq_mem hk')
        rw [← hs0] at gs
        have hatk : (S.map Sg.cells)[k]? = some (Sg.cells s0):=by rw [List.getElem?_map,hatk0,hs0]; rfl
        have haek : ∀ h : k < (S.map Sg.cells).length,(S.map Sg.cells)[k] = Sg.cells s0:=fun h=>by rw [List.getElem?_eq_getElem h] at hatk; simpa using hatk
        simp only [Sg.cells] at hatk haek
        have fH:=hasOn_fc (show S.length ≤ 1048576 by omega) hk' g.1
        rw [← hs0] at fH
        have fO:=onSegF_fc s0 g.1 g.2.1
        rw [onSF_G gs] at fO
        have pA:=pointOfI_fc s0.a (good_a gs)
        have pB:=pointOfI_fc s0.b (good_b gs)
        refine .skip ?_
        refine hK45 _ ?_
        refine .sq fun K47 hK47=>?_
        refine .block ?_
        refine .sq fun K48 hK48=>?_
        refine .sq fun K49 hK49=>?_
        refine .d 18 ?_
        refine .k 6 (fun fs50 hfs50=>?_) (by simp (disch:=first|omega|(simp only[ln];omega)) [runDf.eq_def,runF1,runF2,stepF.eq_def,updo.eq_def,hupo.eq_def,opSto1.eq_def,List.take_succ_cons,List.take_zero,if_pos,g3,g4,g5,g6,g8,g9,g10,He,hati,haei,hatk,haek,hi',hk',hitR_len,List.length_map]; rfl)
        refine .f fH hb19 ?_ (ha:=by simp (disch:=first|omega|(simp only[ln];omega)) [idf_Wd',if_pos,g3,g4,g5,g6,g8,g9,g10,He,hati,haei,hatk,haek,hi',hk',hitR_len,List.length_map])
        refine .k 9 (fun fs51 hfs51=>?_) (by simp (disch:=first|omega|(simp only[ln];omega)) [runDf.eq_def,runF1,runF2,stepF.eq_def,updo.eq_def,hupo.eq_def,opSto1.eq_def,List.take_succ_cons,List.take_zero,if_pos,g3,g4,g5,g6,g8,g9,g10,He,hati,haei,hatk,haek,hi',hk',hitR_len,List.length_map]; rfl)
        refine .f fO hb45 ?_ (ha:=by simp (disch:=first|omega|(simp only[ln];omega)) [idf_Wd',if_pos,g3,g4,g5,g6,g8,g9,g10,He,hati,haei,hatk,haek,hi',hk',hitR_len,List.length_map])
        refine .k 1 (fun fs52 hfs52=>?_) (by simp (disch:=first|omega|(simp only[ln];omega)) [runDf.eq_def,runF1,runF2,stepF.eq_def,updo.eq_def,hupo.eq_def,opSto1.eq_def,List.take_succ_cons,List.take_zero,if_pos,g3,g4,g5,g6,g8,g9,g10,He,hati,haei,hatk,haek,hi',hk',hitR_len,List.length_map]; rfl)
        refine .r 18 (by simp only[ln,hfs50,hfs51,hfs52];omega) ?_ (by simp (disch:=first|omega|(simp only[ln];omega)) [runDf.eq_def,runF1,runF2,stepF.eq_def,updo.eq_def,hupo.eq_def,opSto1.eq_def,if_pos,g3,g4,g5,g6,g8,g9,g10,He,hati,haei,hatk,haek,hi',hk',hitR_len,List.length_map]; rfl)
        refine hK49 _ ?_
        refine .c (t:=false) (fun h121=>?_) (fun h121=>?_)
        ·simp at h121
        ·try simp only[dc]at h121
         refine .skip ?_
         refine hK48 _ ?_
         refine .sq fun K53 hK53=>?_
         by_cases qa : g.1 = ptS s0.a
         ·have da : decide (g.1 = ptS s0.a) = true:=decide_eq_true qa
          have dE:=qa
          have hy : isE S k g = true:=by unfold isE; rw [← hs0]; simp [dE]
          obtain ⟨v,hv⟩ : ∃ v,v = gt (endL S i k) k:=⟨_,rfl⟩
          have hEs:=endL_yes hg hy hk'
          rw [← hv] at hEs
          have hvb:=endC_b S k i
          have hv2 : v = endC S k i:=by rw [hv,endL_gt hk',if_neg (by omega)]
          have hatE : (wd .i64 (endL S i k))[k]? = some [.int .i64 v]:=by rw [wd_at (by rw [endL_len]; exact hk'),hv]
          have haeE : ∀ h : k < (wd .i64 (endL S i k)).length,(wd .i64 (endL S i k))[k] = [.int .i64 v]:=fun h=>by rw [List.getElem?_eq_getElem h] at hatE; simpa using hatE
          have hset : (wd .i64 (endL S i k)).set k [.int .i64 (v + 1)] = wd .i64 (endL S i (k + 1)):=by rw [wd_set,hEs]
          have hEl : (wd .i64 (endL S i k)).length = S.length:=by rw [wd_len,endL_len]
          refine .d 26 ?_
          refine .k 10 (fun fs54 hfs54=>?_) (by simp (disch:=first|omega|(simp only[ln];omega)) [runDf.eq_def,runF1,runF2,stepF.eq_def,updo.eq_def,hupo.eq_def,opSto1.eq_def,List.take_succ_cons,List.take_zero,if_pos,g3,g4,g5,g6,g8,g9,g10,He,hati,haei,hatk,haek,hi',hk',hitR_len,List.length_map,eqPt,da]; rfl)
          refine .f pA hb46 ?_ (ha:=by simp (disch:=first|omega|(simp only[ln];omega)) [idf_Wd',if_pos,g3,g4,g5,g6,g8,g9,g10,He,hati,haei,hatk,haek,hi',hk',hitR_len,List.length_map,eqPt,da])
          refine .k 15 (fun fs55 hfs55=>?_) (by simp (disch:=first|omega|(simp only[ln];omega)) [runDf.eq_def,runF1,runF2,stepF.eq_def,updo.eq_def,hupo.eq_def,opSto1.eq_def,List.take_succ_cons,List.take_zero,if_pos,g3,g4,g5,g6,g8,g9,g10,He,hati,haei,hatk,haek,hi',hk',hitR_len,List.length_map,eqPt,da]; rfl)
          refine .r 26 (by simp only[ln,hfs54,hfs55];omega) ?_ (by simp (disch:=first|omega|(simp only[ln];omega)) [runDf.eq_def,runF1,runF2,stepF.eq_def,updo.eq_def,hupo.eq_def,opSto1.eq_def,if_pos,g3,g4,g5,g6,g8,g9,g10,He,hati,haei,hatk,haek,hi',hk',hitR_len,List.length_map,eqPt,da]; rfl)
          refine hK53 _ ?_
          refine .c (t:=true) (fun h147=>?_) (fun h147=>?_)
          ·try simp only[dc]at h147
           refine .r ?_ (by simp (disch:=first|omega|(simp only[ln];omega)) [idx_WdD (P:=Tryz.prog) elT75 szT3,if_pos,g3,g4,g5,g6,g8,g9,g10,He,hatE,haeE,hset,hEl,hk']; rfl)
           refine hK47 _ ?_
           refine .r ?_ (by simp (disch:=first|omega|(simp only[ln];omega)) [g10]; rfl)
           refine ⟨S.length - (k + 1),by omega,k + 1,rfl,by omega,?_,?_,?_,?_,?_,?_,?_,?_,?_,rfl⟩ <;> first|(simp (disch:=omega) [g3,g4,g5,g6,g8,g9,g10,He,hatE,haeE,hset,hEl];done)|omega|(simp;done)|(simp;omega)
          ·simp at h147
         ·have da : decide (g.1 = ptS s0.a) = false:=decide_eq_false qa
          by_cases qb : g.1 = ptS s0.b
          ·have db : decide (g.1 = ptS s0.b) = true:=decide_eq_true qb
           have dE:=qb
           have hy : isE S k g = true:=by unfold isE; rw [← hs0]; simp [dE]
           obtain ⟨v,hv⟩ : ∃ v,v = gt (endL S i k) k:=⟨_,rfl⟩
           have hEs:=endL_yes hg hy hk'
           rw [← hv] at hEs
           have hvb:=endC_b S k i
           have hv2 : v = endC S k i:=by rw [hv,endL_gt hk',if_neg (by omega)]
           have hatE : (wd .i64 (endL S i k))[k]? = some [.int .i64 v]:=by rw [wd_at (by rw [endL_len]; exact hk'),hv]
           have haeE : ∀ h : k < (wd .i64 (endL S i k)).length,(wd .i64 (endL S i k))[k] = [.int .i64 v]:=fun h=>by rw [List.getElem?_eq_getElem h] at hatE; simpa using hatE
           have hset : (wd .i64 (endL S i k)).set k [.int .i64 (v + 1)] = wd .i64 (endL S i (k + 1)):=by rw [wd_set,hEs]
           have hEl : (wd .i64 (endL S i k)).length = S.length:=by rw [wd_len,endL_len]
           refine .d 26 ?_
           refine .k 10 (fun fs56 hfs56=>?_) (by simp (disch:=first|omega|(simp only[ln];omega)) [runDf.eq_def,runF1,runF2,stepF.eq_def,updo.eq_def,hupo.eq_def,opSto1.eq_def,List.take_succ_cons,List.take_zero,if_pos,g3,g4,g5,g6,g8,g9,g10,He,hati,haei,hatk,haek,hi',hk',hitR_len,List.length_map,eqPt,da,db]; rfl)
           refine .f pA hb46 ?_ (ha:=by simp (disch:=first|omega|(simp only[ln];omega)) [idf_Wd',if_pos,g3,g4,g5,g6,g8,g9,g10,He,hati,haei,hatk,haek,hi',hk',hitR_len,List.length_map,eqPt,da,db])
           refine .k 12 (fun fs57 hfs57=>?_) (by simp (disch:=first|omega|(simp only[ln];omega)) [runDf.eq_def,runF1,runF2,stepF.eq_def,updo.eq_def,hupo.eq_def,opSto1.eq_def,List.take_succ_cons,List.take_zero,if_pos,g3,g4,g5,g6,g8,g9,g10,He,hati,haei,hatk,haek,hi',hk',hitR_len,List.length_map,eqPt,da,db]; rfl)
           refine .f pB hb46 ?_ (ha:=by simp (disch:=first|omega|(simp only[ln];omega)) [idf_Wd',if_pos,g3,g4,g5,g6,g8,g9,g10,He,hati,haei,hatk,haek,hi',hk',hitR_len,List.length_map,eqPt,da,db])
           refine .k 2 (fun fs58 hfs58=>?_) (by simp (disch:=first|omega|(simp only[ln];omega)) [runDf.eq_def,runF1,runF2,stepF.eq_def,updo.eq_def,hupo.eq_def,opSto1.eq_def,List.take_succ_cons,List.take_zero,if_pos,g3,g4,g5,g6,g8,g9,g10,He,hati,haei,hatk,haek,hi',hk',hitR_len,List.length_map,eqPt,da,db]; rfl)
           refine .r 26 (by simp only[ln,hfs56,hfs57,hfs58];omega) ?_ (by simp (disch:=first|omega|(simp only[ln];omega)) [runDf.eq_def,runF1,runF2,stepF.eq_def,updo.eq_def,hupo.eq_def,opSto1.eq_def,if_pos,g3,g4,g5,g6,g8,g9,g10,He,hati,haei,hatk,haek,hi',hk',hitR_len,List.length_map,eqPt,da,db]; rfl)
           refine hK53 _ ?_
           refine .c (t:=true) (fun h147=>?_) (fun h147=>?_)
           ·try simp only[dc]at h147
            refine .r ?_ (by simp (disch:=first|omega|(simp only[ln];omega)) [idx_WdD (P:=Tryz.prog) elT75 szT3,if_pos,g3,g4,g5,g6,g8,g9,g10,He,hatE,haeE,hset,hEl,hk']; rfl)
            refine hK47 _ ?_
            refine .r ?_ (by simp (disch:=first|omega|(simp only[ln];omega)) [g10]; rfl)
            refine ⟨S.length - (k + 1),by omega,k + 1,rfl,by omega,?_,?_,?_,?_,?_,?_,?_,?_,?_,rfl⟩ <;> first|(simp (disch:=omega) [g3,g4,g5,g6,g8,g9,g10,He,hatE,haeE,hset,hEl];done)|omega|(simp;done)|(simp;omega)
           ·simp at h147
          ·have db : decide (g.1 = ptS s0.b) = false:=decide_eq_false qb
           have hEn:=endL_no (k:=k) hg (by unfold isE; rw [← hs0,da,db]; rfl)
           refine .d 26 ?_
           refine .k 10 (fun fs59 hfs59=>?_) (by simp (disch:=first|omega|(simp only[ln];omega)) [runDf.eq_def,runF1,runF2,stepF.eq_def,updo.eq_def,hupo.eq_def,opSto1.eq_def,List.take_succ_cons,List.take_zero,if_pos,g3,g4,g5,g6,g8,g9,g10,He,hati,haei,hatk,haek,hi',hk',hitR_len,List.length_map,eqPt,da,db]; rfl)
           refine .f pA hb46 ?_ (ha:=by simp (disch:=first|omega|(simp only[ln];omega)) [idf_Wd',if_pos,g3,g4,g5,g6,g8,g9,g10,He,hati,haei,hatk,haek,hi',hk',hitR_len,List.length_map,eqPt,da,db])
           refine .k 12 (fun fs60 hfs60=>?_) (by simp (disch:=first|omega|(simp only[ln];omega)) [runDf.eq_def,runF1,runF2,stepF.eq_def,updo.eq_def,hupo.eq_def,opSto1.eq_def,List.take_succ_cons,List.take_zero,if_pos,g3,g4,g5,g6,g8,g9,g10,He,hati,haei,hatk,haek,hi',hk',hitR_len,List.length_map,eqPt,da,db]; rfl)
           refine .f pB hb46 ?_ (ha:=by simp (disch:=first|omega|(simp only[ln];omega)) [idf_Wd',if_pos,g3,g4,g5,g6,g8,g9,g10,He,hati,haei,hatk,haek,hi',hk',hitR_len,List.length_map,eqPt,da,db])
           refine .k 2 (fun fs61 hfs61=>?_) (by simp (disch:=first|omega|(simp only[ln];omega)) [runDf.eq_def,runF1,runF2,stepF.eq_def,updo.eq_def,hupo.eq_def,opSto1.eq_def,List.take_succ_cons,List.take_zero,if_pos,g3,g4,g5,g6,g8,g9,g10,He,hati,haei,hatk,haek,hi',hk',hitR_len,List.length_map,eqPt,da,db]; rfl)
           refine .r 26 (by simp only[ln,hfs59,hfs60,hfs61];omega) ?_ (by simp (disch:=first|omega|(simp only[ln];omega)) [runDf.eq_def,runF1,runF2,stepF.eq_def,updo.eq_def,hupo.eq_def,opSto1.eq_def,if_pos,g3,g4,g5,g6,g8,g9,g10,He,hati,haei,hatk,haek,hi',hk',hitR_len,List.length_map,eqPt,da,db]; rfl)
           refine hK53 _ ?_
           refine .c (t:=false) (fun h147=>?_) (fun h147=>?_)
           ·simp at h147
           ·try simp only[dc]at h147
            refine .skip ?_
            refine hK47 _ ?_
            refine .r ?_ (by simp (disch:=first|omega|(simp only[ln];omega)) [g10]; rfl)
            refine ⟨S.length - (k + 1),by omega,k + 1,rfl,by omega,?_,?_,?_,?_,?_,?_,?_,?_,?_,rfl⟩ <;> first|(simp (disch:=omega) [g3,g4,g5,g6,g8,g9,g10,He,hEn];done)|omega|(simp;done)|(simp;omega)
       ·try simp only[dc]at h101
        have hkn : k = S.length:=by omega
        have hEx : endL S (i + 1) 0 = endL S i k:=by rw [hkn,endL_next]
        refine .exit ?_
        refine hK15 _ ?_
        refine .r ?_ (by simp (disch:=first|omega|(simp only[ln];omega)) [g9]; rfl)
        refine ⟨(hitP S).length - (i + 1),by omega,i + 1,ie,rfl,by omega,?_,?_,?_,?_,?_,?_,?_,?_,rfl⟩ <;> first|(simp (disch:=omega) [g3,g4,g5,g6,g8,g9,g10,He,hEx];done)|omega|(simp;done)|(simp;omega)
    ·try simp only[dc]at h49
     have hin : i = (hitP S).length:=by omega
     subst hin
     refine .exit ?_
     refine hK11 _ ?_
     refine .sq fun K62 hK62=>?_
     refine .q ?_
     refine .block ?_
     
     refine .loop (fun N s=>∃ q : Nat,N = S.length - q ∧ q ≤ S.length ∧ s.env 3 = .isl (S.map Sg.cells) ∧ s.env 5 = .bool true ∧ s.env 8 = .osl ie 0 S.length ∧ s.env 11 = .int .i64 (q : Int) ∧ s.heap ie = some (1,wd .i64 (endL S (hitP S).length 0)) ∧ ie < s.nx ∧ s.nt = 168) (S.length) (by refine ⟨0,by omega,by omega,?_,?_,?_,?_,?_,?_,rfl⟩ <;> first|(simp (disch:=omega) [g3,g4,g5,g6,g8,g9,He];done)|omega|(simp;done)|(simp;omega)) ?_
     clear g3 g4 g5 g6 g8 g9 He xe
     rintro N ⟨e,H,mm,nt⟩ ⟨q,rfl,hq,g3,g5,g8,g11,He,xe,rfl⟩
     simp only [] at g3 g5 g8 g11 He xe
     refine .sq fun K64 hK64=>?_
     refine .q ?_ (by simp (disch:=first|omega|(simp only[ln];omega)) [g3,g5,g11,List.length_map]; rfl)
     refine .c (fun h160=>?_) (fun h160=>?_)
     ·try simp only[dc]at h160
      have hq' : q < S.length:=by omega
      have htw:=end_two z2 hq'
      have hatE : (wd .i64 (endL S (hitP S).length 0))[q]? = some [.int .i64 2]:=by rw [wd_at (by rw [endL_len]; exact hq'),endL_gt hq',if_neg (by omega),htw]
      have haeE : ∀ h : q < (wd .i64 (endL S (hitP S).length 0)).length,(wd .i64 (endL S (hitP S).length 0))[q] = [.int .i64 2]:=fun h=>by rw [List.getElem?_eq_getElem h] at hatE; simpa using hatE
      have hEl : (wd .i64 (endL S (hitP S).length 0)).length = S.length:=by rw [wd_len,endL_len]
      refine .skip ?_
      refine hK64 _ ?_
      refine .sq fun K66 hK66=>?_
      refine .block ?_
      refine .q ?_ (by simp (disch:=first|omega|(simp only[ln];omega)) [idx_WdD (P:=Tryz.prog) elT75 szT3,if_pos,g8,g11,He,hatE,haeE,hEl,hq']; rfl)
      refine .c (t:=false) (fun h167=>?_) (fun h167=>?_)
      ·simp at h167
      ·try simp only[dc]at h167
       refine .skip ?_
       refine hK66 _ ?_
       refine .r ?_ (by simp (disch:=first|omega|(simp only[ln];omega)) [g11]; rfl)
       refine ⟨S.length - (q + 1),by omega,q + 1,rfl,by omega,?_,?_,?_,?_,?_,?_,rfl⟩ <;> first|(simp (disch:=omega) [g3,g5,g8,g11,He];done)|omega|(simp;done)|(simp;omega)
     ·try simp only[dc]at h160
      refine .exit ?_
      refine hK62 _ ?_
      refine .q ?_
      refine .ret ?_
      exact hK _ _ _ _ trivial (Fin.m)
  ·have hl9 : S.length ≤ 1099511627776:=by omega
   have sf:=segsFaultI_fc S hl9
   have hz0 : ((sgF S : Int) == 0) = false:=by simp; exact hz
   refine .region ?_
   refine .kf 1 (hitsOf_no S hl9 hz) hb32 ?_
   refine .e ?_
   refine hK6 _ ?_
   refine .sq fun K69 hK69=>?_
   refine .region ?_
   refine .kf 1 (hitsS_no S hl9 hz) hb42 ?_
   refine .e ?_
   refine hK69 _ ?_
   refine .sq fun K70 hK70=>?_
   refine .sq fun K71 hK71=>?_
   refine .region ?_
   refine .kf 13 sf hb43 ?_ (by simp (disch:=first|omega|(simp only[ln];omega)) [List.take_succ_cons,List.take_zero,hz0]; rfl) (ha:=by simp (disch:=first|omega|(simp only[ln];omega)) [idf_Wd',hz0])
   refine .e ?_ (by simp (disch:=first|omega|(simp only[ln];omega)) [hz0]; rfl)
   refine hK71 _ ?_
   refine .c (t:=false) (fun h42=>?_) (fun h42=>?_)
   ·simp at h42
   ·try simp only[dc]at h42
    refine .skip ?_
    refine hK70 _ ?_
    refine .q ?_ (by simp (disch:=first|omega|(simp only[ln];omega)) [if_pos,List.length_map]; rfl)
    refine .sq fun K73 hK73=>?_
    refine .q ?_
    refine .block ?_
    
    refine .loop (fun N s=>∃ i : Nat,N = 0 - i ∧ i ≤ 0 ∧ s.env 4 = .nsl ∧ s.env 5 = .bool false ∧ s.env 9 = .int .i64 (i : Int) ∧ s.nt = 168) (0) (by refine ⟨0,by omega,by omega,?_,?_,?_,rfl⟩ <;> first|(simp (disch:=omega);done)|omega|(simp;done)|(simp;omega)) ?_
    rintro N ⟨e,H,mm,nt⟩ ⟨i,rfl,hi,g4,g5,g9,rfl⟩
    simp only [] at g4 g5 g9
    refine .sq fun K75 hK75=>?_
    refine .q ?_ (by simp (disch:=first|omega|(simp only[ln];omega)) [g4,g9]; rfl)
    refine .c (t:=decide ((i : Int) < 0)) (fun h49=>?_) (fun h49=>?_)
    ·simp at h49; omega
    ·try simp only[dc]at h49
     refine .exit ?_
     refine hK73 _ ?_
     refine .sq fun K77 hK77=>?_
     refine .q ?_
     refine .block ?_
     
     refine .loop (fun N s=>∃ q : Nat,N = 0 - q ∧ q ≤ 0 ∧ s.env 5 = .bool false ∧ s.env 11 = .int .i64 (q : Int) ∧ s.nt = 168) (0) (by refine ⟨0,by omega,by omega,?_,?_,rfl⟩ <;> first|(simp (disch:=omega) [g5];done)|omega|(simp;done)|(simp;omega)) ?_
     rintro N ⟨e,H,mm,nt⟩ ⟨q,rfl,hq,g5,g11,rfl⟩
     simp only [] at g5 g11
     refine .sq fun K79 hK79=>?_
     refine .q ?_ (by simp (disch:=first|omega|(simp only[ln];omega)) [g5,g11]; rfl)
     refine .c (t:=false) (fun h160=>?_) (fun h160=>?_)
     ·simp at h160
     ·try simp only[dc]at h160
      refine .exit ?_
      refine hK77 _ ?_
      refine .q ?_
      refine .ret ?_
      exact hK _ _ _ _ trivial (Fin.m)
end

end Go.Proofs.YtaibemhdfhchfaaGreat
