/- Walks: plan told for good; edges of a segment. -/
import Derived.Test.YtjbbbkfdcegfmaaGreatG1A

namespace Go.Proofs.YtjbbbkfdcegfmaaGreat
open Go Go.RowKit
set_option linter.unusedSimpArgs false
set_option linter.unusedVariables false
set_option maxRecDepth 100000
attribute [local simp] szT2 byT2 agT2 unT2 zoT2 szT3 byT3 agT3 unT3 zoT3 szT24 byT24 agT24 elT24 unT24 zoT24 szT27 byT27 agT27 elT27 unT27 zoT27 szT37 byT37 agT37 elT37 unT37 zoT37 szT38 byT38 agT38 elT38 unT38 zoT38 szT40 byT40 agT40 flT40 fdT40_0 fdT40_1 zoT40 szT76 byT76 agT76 elT76 unT76 zoT76 szT78 byT78 agT78 flT78 fdT78_0 fdT78_1 zoT78 szT81 byT81 agT81 flT81 fdT81_0 fdT81_1 fdT81_2 zoT81 szT85 byT85 agT85 flT85 fdT85_0 fdT85_1 zoT85 srT24 ixT24 lnT24 srT27 srT37 srT38 srT76

theorem nsl_isl {w : World} {β : Nat → Option Loc} {b : Nat → Bool} {v : Value} (h : VR w β b .nsl v) : VR w β b (.isl []) v:=by
  rw [show v = .slice none 0 0 from h]
  exact ⟨none,0,0,[],rfl,Nat.le_refl _,rfl,fun e vs he=>by simp at he⟩
theorem lv_cellsG (H : Heap) (k : Nat) (l : List GP) : (l.map cellsG).map (List.map (lv H k)) = l.map cellsG:=by
  rw [List.map_map]
  exact List.map_congr_left fun g _=>lvL_int fun x hx=>by
    simp only [cellsG,Pt.cells,List.mem_cons,List.not_mem_nil,or_false] at hx
    rcases hx with rfl | rfl | rfl | rfl | rfl | rfl | rfl | rfl | rfl | rfl | rfl | rfl <;> exact ⟨_,rfl⟩
theorem plan_fc (L : List Sg) (z1 : L.length ≤ 40) (z2 : ∀ s ∈ L,s.good = true) : FC Tryz.prog 63 [.isl (L.map Sg.cells)] (.agg [.isl ((hitP L).map cellsG),.isl ((edL L).map edC)]) :=
  FC.of_lv 4 (by simp [idfL,idf,idfLL_iff,Sg.cells]) (by
    simp only [idf,idfL,idfLL_iff,List.mem_map,and_true]
    constructor
    · rintro x ⟨g,_,rfl⟩; simp [cellsG,Pt.cells,idfL,idf]
    · rintro x ⟨e,_,rfl⟩; simp [edC,idfL,idf,idf_Wd']) (plan_ac L z1 z2) fun nx v H nx' ⟨pv,ev,D,e,hp,he,hD⟩ w β b u hu=>by
    subst e
    obtain ⟨vs,rfl,v1,r1,e1,h1,v2,r2,e2,h2,e3⟩:=hu
    subst e3
    refine ⟨vs,rfl,v1,_,e1,?_,v2,_,e2,?_,rfl⟩
    · rcases hp with ⟨h0,rfl⟩ | ⟨iq,_,rfl,hq,_⟩
      · rw [List.length_eq_zero_iff.1 h0]; exact nsl_isl h1
      · rw [List.take_length] at hq
        have e : YtjbbbkfdcegfmaaGreat.lv H 3 (.osl iq 0 (hitP L).length) = .isl ((hitP L).map cellsG):=by
          rw [YtjbbbkfdcegfmaaGreat.lv,hq]
          simp only []
          rw [if_pos (by simp),List.drop_zero,List.take_of_length_le (by simp),lv_cellsG]
        rwa [e] at h1
    · rcases he with ⟨rfl,rfl⟩ | ⟨ix,_,rfl,hE⟩
      · rw [← hD]; exact nsl_isl h2
      · rw [hE.lv 1] at h2
        rw [← hD,List.map_map]; exact h2
theorem beqI (a b : Int) : (a == b) = decide (a = b):=rfl

set_option maxHeartbeats 1000000 in
theorem indexI_fc (l : List Int) (x : Int) (hl : l.length ≤ 1099511627776) : FC Tryz.prog 110 [Wd .i64 l,.int .i64 x] (.int .i64 (ixZ l x)):=by
 refine .b Tryz.func110 19 (fun nx K hK=>?_)
 refine .q ?_
 refine .sq fun K2 hK2=>?_
 refine .q ?_
 refine .block ?_
 
 refine .loop (fun N s=>∃ i : Nat,N = l.length - i ∧ i ≤ l.length ∧ (∀ j,j < i → gt l j ≠ x) ∧ s.env 0 = Wd .i64 l ∧ s.env 1 = .int .i64 (x : Int) ∧ s.env 7 = .int .i64 (l.length : Int) ∧ s.env 8 = .int .i64 (i : Int) ∧ s.nt = 19) (l.length) (by refine ⟨0,by omega,by omega,fun j h=>by omega,?_,?_,?_,?_,rfl⟩ <;> first|(simp (disch:=omega);done)|omega|(simp;done)|(simp;omega)) ?_
 rintro N ⟨e,H,mm,nt⟩ ⟨i,rfl,hi,hno,g0,g1,g7,g8,rfl⟩
 simp only [] at g0 g1 g7 g8
 refine .q ?_ (by simp (disch:=first|exact zd|fail) [g7,g8]; rfl)
 refine .sq fun K5 hK5=>?_
 refine .c (fun h9=>?_) (fun h9=>?_)
 ·try simp only[dc]at h9
  have hi' : i < l.length:=by omega
  refine .skip ?_
  refine hK5 _ ?_
  refine .sq fun K6 hK6=>?_
  refine .block ?_
  refine .q ?_ (by simp (disch:=first|exact zd|fail) [g8]; rfl)
  refine .q ?_ (by simp (disch:=first|exact zd|fail) [if_pos,g0,g1,g8,hi']; rfl)
  refine .c (t:=decide (x = gt l i)) (fun h16=>?_) (fun h16=>?_) (by simp (disch:=first|exact zd|fail) [beqI])
  ·try simp only[dc]at h16
   refine .q ?_
   refine .ret ?_
   exact hK _ _ _ _ trivial ((Fin.m).cast (by rw [ixZ_at hno hi' h16.symm]))
  ·try simp only[dc]at h16
   refine .skip ?_
   refine hK6 _ ?_
   refine .r ?_ (by simp (disch:=first|exact zd|fail) [g8]; rfl)
   refine ⟨l.length - (i + 1),by omega,i + 1,rfl,by omega,fun j hj=>by
     rcases Nat.lt_or_ge j i with h | h
     · exact hno j h
     · rw [show j = i by omega]; exact fun e=>h16 e.symm,?_,?_,?_,?_,rfl⟩ <;> first|(simp (disch:=omega) [g0,g1,g7,g8];done)|omega|(simp;done)|(simp;omega)
 ·try simp only[dc]at h9
  have hin : i = l.length:=by omega
  subst hin
  refine .exit ?_
  refine hK2 _ ?_
  refine .q ?_
  refine .ret ?_
  exact hK _ _ _ _ trivial ((Fin.m).cast (by rw [ixZ_no hno]))
set_option maxHeartbeats 1000000 in
theorem containsI_fc (l : List Int) (x : Int) (hl : l.length ≤ 1099511627776) : FC Tryz.prog 64 [Wd .i64 l,.int .i64 x] (.bool (decide (x ∈ l))):=by
 refine .b Tryz.func64 9 (fun nx K hK=>?_)
 refine .q ?_
 refine .sq fun K2 hK2=>?_
 refine .region ?_
 refine .kf 2 (indexI_fc l x hl) hb110 ?_
 refine .e ?_
 refine hK2 _ ?_
 refine .ret ?_
 exact hK _ _ _ _ trivial ((Fin.m).cast (by congr 1; rw [decide_eq_decide]; exact ixZ_ge l x))
section
attribute [local simp] idf_numS cells_numS numS_fold idf_numI cells_numI numI_fold Sp.av Sp.cells Sg.av Sg.cells
set_option maxHeartbeats 1000000 in
theorem edgesI_no (L : List Sg) (n : Int) (hl : L.length ≤ 1099511627776) (hz : ¬ (sgF L = 0 ∧ 0 ≤ n ∧ n ≤ (L.length : Int) - 1)) : FC Tryz.prog 18 [.isl (L.map Sg.cells),.int .i64 n] (.tup [.nsl,.bool false]):=by
 refine .b Tryz.func18 40 (fun nx K hK=>?_) (hi:=by simp [idfL,idf,idfLL_iff,Sg.cells,Pt.av,Pt.cells])
 refine .q ?_
 refine .sq fun K2 hK2=>?_
 refine .sq fun K3 hK3=>?_
 by_cases z : sgF L = 0
 ·have hd : decide (sgF L = 0) = true:=decide_eq_true z
  have hw : (decide (0 ≤ n) && decide (n ≤ (L.length : Int) - 1)) = false:=by
    rw [Bool.and_eq_false_iff,decide_eq_false_iff_not,decide_eq_false_iff_not]; omega
  refine .region ?_
  refine .kf 1 (areSegs_fc L hl) hb61 ?_ (by simp (disch:=first|exact zd|fail) [List.take_succ_cons,List.take_zero,hd,hw,List.length_map]; rfl) (ha:=by simp (disch:=first|exact zd|fail) [idf_Wd',hd,hw,List.length_map])
  refine .kf 6 (within_fc n 0 ((L.length : Int) - 1)) hb62 ?_ (by simp (disch:=first|exact zd|fail) [List.take_succ_cons,List.take_zero,hd,hw,List.length_map]; rfl) (ha:=by simp (disch:=first|exact zd|fail) [idf_Wd',hd,hw,List.length_map])
  refine .e ?_ (by simp (disch:=first|exact zd|fail) [hd,hw,List.length_map]; rfl)
  refine hK3 _ ?_
  refine .c (fun h19=>?_) (fun h19=>?_)
  ·try simp only[dc]at h19
   refine .q ?_
   refine .ret ?_
   exact hK _ _ _ _ trivial ((Fin.mk (by simp (disch:=omega) [aRes,aResL,aRes1]; try rfl)))
  ·simp at h19
 ·have hd : decide (sgF L = 0) = false:=decide_eq_false z
  refine .region ?_
  refine .kf 1 (areSegs_fc L hl) hb61 ?_ (by simp (disch:=first|exact zd|fail) [List.take_succ_cons,List.take_zero,hd,List.length_map]; rfl) (ha:=by simp (disch:=first|exact zd|fail) [idf_Wd',hd,List.length_map])
  refine .e ?_ (by simp (disch:=first|exact zd|fail) [hd,List.length_map]; rfl)
  refine hK3 _ ?_
  refine .c (fun h19=>?_) (fun h19=>?_)
  ·try simp only[dc]at h19
   refine .q ?_
   refine .ret ?_
   exact hK _ _ _ _ trivial ((Fin.mk (by simp (disch:=omega) [aRes,aResL,aRes1]; try rfl)))
  ·simp at h19
set_option maxHeartbeats 1000000 in
theorem edgesS_no (L : List Sg) (n : Int) (hl : L.length ≤ 1099511627776) (hz : ¬ (sgF L = 0 ∧ 0 ≤ n ∧ n ≤ (L.length : Int) - 1)) : FC Tryz.prog 16 [.isl (L.map Sg.cells),.int .i64 n] (.tup [.nsl,.bool false]):=by
 refine .b Tryz.func16 58 (fun nx K hK=>?_) (hi:=by simp [idfL,idf,idfLL_iff,Sg.cells,Pt.av,Pt.cells])
 refine .q ?_
 refine .sq fun K2 hK2=>?_
 refine .sq fun K3 hK3=>?_
 by_cases z : sgF L = 0
 ·have hd : decide (sgF L = 0) = true:=decide_eq_true z
  have hw : (decide (0 ≤ n) && decide (n ≤ (L.length : Int) - 1)) = false:=by
    rw [Bool.and_eq_false_iff,decide_eq_false_iff_not,decide_eq_false_iff_not]; omega
  refine .region ?_
  refine .kf 1 (l7Ok_fc L hl) hb57 ?_ (by simp (disch:=first|exact zd|fail) [List.take_succ_cons,List.take_zero,hd,hw,List.length_map]; rfl) (ha:=by simp (disch:=first|exact zd|fail) [idf_Wd',hd,hw,List.length_map])
  refine .kf 6 (l1In_fc n 0 ((L.length : Int) - 1)) hb58 ?_ (by simp (disch:=first|exact zd|fail) [List.take_succ_cons,List.take_zero,hd,hw,List.length_map]; rfl) (ha:=by simp (disch:=first|exact zd|fail) [idf_Wd',hd,hw,List.length_map])
  refine .e ?_ (by simp (disch:=first|exact zd|fail) [hd,hw,List.length_map]; rfl)
  refine hK3 _ ?_
  refine .c (fun h20=>?_) (fun h20=>?_)
  ·try simp only[dc]at h20
   refine .q ?_
   refine .ret ?_
   exact hK _ _ _ _ trivial ((Fin.mk (by simp (disch:=omega) [aRes,aResL,aRes1]; try rfl)))
  ·simp at h20
 ·have hd : decide (sgF L = 0) = false:=decide_eq_false z
  refine .region ?_
  refine .kf 1 (l7Ok_fc L hl) hb57 ?_ (by simp (disch:=first|exact zd|fail) [List.take_succ_cons,List.take_zero,hd,List.length_map]; rfl) (ha:=by simp (disch:=first|exact zd|fail) [idf_Wd',hd,List.length_map])
  refine .e ?_ (by simp (disch:=first|exact zd|fail) [hd,List.length_map]; rfl)
  refine hK3 _ ?_
  refine .c (fun h20=>?_) (fun h20=>?_)
  ·try simp only[dc]at h20
   refine .q ?_
   refine .ret ?_
   exact hK _ _ _ _ trivial ((Fin.mk (by simp (disch:=omega) [aRes,aResL,aRes1]; try rfl)))
  ·simp at h20
set_option maxHeartbeats 4000000 in
theorem edgesI_own (L : List Sg) (n : Int) (hl : L.length ≤ 1099511627776) (zs : sgF L = 0) (hn : 0 ≤ n ∧ n ≤ (L.length : Int) - 1) (nx : Nat) : ACall Tryz.prog 18 [.isl (L.map Sg.cells),.int .i64 n] (fun _=>none) nx (own1 nx 1 (wd .i64 (eoL L n)) (fun id=>.tup [.osl id 0 (eoL L n).length,.bool true])):=by
 obtain ⟨z1,z2⟩:=sgF_zero zs
 have hd : decide (sgF L = 0) = true:=decide_eq_true zs
 have hw : (decide (0 ≤ n) && decide (n ≤ (L.length : Int) - 1)) = true:=by simp; omega
 have hpb : (hitP L).length ≤ 1680:=by rw [hitP_len]; exact ded_b z1 (Nat.le_refl _)
 obtain ⟨eb1,eb2⟩:=edL_b z1 hpb
 refine .b Tryz.func18 40 fun K hK=>?_
 refine .q ?_
 refine .sq fun K2 hK2=>?_
 refine .sq fun K3 hK3=>?_
 refine .region ?_
 refine .kf 1 (areSegs_fc L (by omega)) hb61 ?_ (by simp (disch:=first|exact zd|fail) [List.take_succ_cons,List.take_zero,hd,hw,List.length_map]; rfl) (ha:=by simp (disch:=first|exact zd|fail) [idf_Wd',hd,hw,List.length_map])
 refine .kf 6 (within_fc n 0 ((L.length : Int) - 1)) hb62 ?_ (by simp (disch:=first|exact zd|fail) [List.take_succ_cons,List.take_zero,hd,hw,List.length_map]; rfl) (ha:=by simp (disch:=first|exact zd|fail) [idf_Wd',hd,hw,List.length_map])
 refine .e ?_ (by simp (disch:=first|exact zd|fail) [hd,hw,List.length_map]; rfl)
 refine hK3 _ ?_
 refine .c (fun h19=>?_) (fun h19=>?_)
 ·simp at h19
 ·try simp only[dc]at h19
  refine .skip ?_
  refine hK2 _ ?_
  refine .q ?_
  refine .sq fun K5 hK5=>?_
  refine .sq fun K6 hK6=>?_
  refine .region ?_
  refine .kf 1 (plan_fc L z1 z2) hb63 ?_ (by simp (disch:=first|exact zd|fail) [List.take_succ_cons,List.take_zero,List.length_map]; rfl) (ha:=by simp (disch:=first|exact zd|fail) [idf_Wd',List.length_map])
  refine .e ?_ (by simp (disch:=first|exact zd|fail) [List.length_map]; rfl)
  refine hK6 _ ?_
  refine .block ?_
  
  refine .loop (fun N s=>∃ i : Nat,∃ C : List Int,∃ io : Nat,N = (edL L).length - i ∧ i ≤ (edL L).length ∧ (C = eoF (edL L) n i) ∧ (nx ≤ io) ∧ s.env 0 = .isl (L.map Sg.cells) ∧ s.env 1 = .int .i64 (n : Int) ∧ s.env 6 = .osl io 0 C.length ∧ s.env 23 = .isl ((edL L).map edC) ∧ s.env 24 = .int .i64 ((edL L).length : Int) ∧ s.env 25 = .int .i64 (i : Int) ∧ s.heap io = some (1,wd .i64 C) ∧ io < s.nx ∧ s.nt = 40) ((edL L).length) (by refine ⟨0,[],nx,by omega,by omega,rfl,by omega,?_,?_,?_,?_,?_,?_,?_,?_,rfl⟩ <;> first|(simp (disch:=omega) [wd];done)|omega|(simp;done)|(simp;omega)) ?_
  rintro N ⟨e,H,mm,nt⟩ ⟨i,C,io,rfl,hi,hC,hio,g0,g1,g6,g23,g24,g25,Ho,xo,rfl⟩
  simp only [] at g0 g1 g6 g23 g24 g25 Ho xo
  refine .q ?_ (by simp (disch:=first|exact zd|fail) [g24,g25]; rfl)
  refine .sq fun K8 hK8=>?_
  refine .c (fun h26=>?_) (fun h26=>?_)
  ·try simp only[dc]at h26
   have hi' : i < (edL L).length:=by omega
   obtain ⟨E0,hE0⟩ : ∃ e,e = edq (edL L) i:=⟨_,rfl⟩
   have hat:=edC_at hi'
   rw [← hE0] at hat
   have hae : ∀ h : i < ((edL L).map edC).length,((edL L).map edC)[i] = [.int .i64 E0.1.1,.int .i64 E0.1.2,Wd .i64 E0.2]:=fun h=>by rw [List.getElem?_eq_getElem h] at hat; simpa using hat
   have hpl:=eb2 _ (edq_mem hi')
   rw [← hE0] at hpl
   have hml : ((edL L).map edC).length = (edL L).length:=List.length_map _
   refine .skip ?_
   refine hK8 _ ?_
   refine .sq fun K9 hK9=>?_
   refine .block ?_
   refine .q ?_ (by simp (disch:=first|exact zd|fail) [if_pos,g23,g25,hat,hae,hi',hml]; rfl)
   refine .sq fun K11 hK11=>?_
   refine .region ?_
   refine .kf 3 (containsI_fc E0.2 n (by omega)) hb64 ?_ (by simp (disch:=first|exact zd|fail) [List.take_succ_cons,List.take_zero,g1,hat]; rfl) (ha:=by simp (disch:=first|exact zd|fail) [idf_Wd',g1,hat])
   refine .nil ?_
   refine hK11 _ ?_
   refine .c (t:=decide (n ∈ E0.2)) (fun h33=>?_) (fun h33=>?_)
   ·try simp only[dc]at h33
    have hC' : C ++ [(i : Int)] = eoF (edL L) n (i + 1):=by rw [eoF_yes (by rw [← hE0]; exact h33),hC]
    have hCl:=eoF_len (edL L) n i
    rw [← hC] at hCl
    have hc1 : (C.length + 1) * 8 ≤ 140737488355328:=by omega
    have hc2 : C.length ≤ 9223372036854775806:=by omega
    have hwl : (wd .i64 C).length = C.length:=List.length_map _
    have htk : List.take C.length (wd .i64 C) = wd .i64 C:=List.take_of_length_le (Nat.le_of_eq hwl)
    refine .region ?_
    refine .k 3 ?_ (by simp (disch:=first|exact zd|fail) [List.take_succ_cons,List.take_zero,g6]; rfl)
    refine AOPS.opapp (by simp (disch:=first|exact zd|fail) [if_pos,wd_append,wd_take,wd_drop,List.nil_append,hc1,hc2,hwl,htk,Ho,g6]; first | rfl | exact ⟨rfl,rfl⟩ | exact ⟨rfl,rfl,rfl⟩) (by simp) (by simp) ?_
    simp only [puts_some,hdrop]
    refine .e ?_ (by simp (disch:=first|exact zd|fail) [g6]; rfl)
    refine hK9 _ ?_
    refine .r ?_ (by simp (disch:=first|exact zd|fail) [g25]; rfl)
    refine ⟨(edL L).length - (i + 1),by omega,i + 1,C ++ [(i : Int)],(mm + 1 + 1),rfl,by omega,hC',by first|omega|(simp;omega),?_,?_,?_,?_,?_,?_,?_,?_,rfl⟩ <;> first|(simp (disch:=omega) [wd_append,List.length_append,hwl,htk,g0,g1,g6,g23,g24,g25,Ho];done)|omega|(simp;done)|(simp;omega)
   ·try simp only[dc]at h33
    have hC' : C = eoF (edL L) n (i + 1):=by rw [eoF_no (by rw [← hE0]; exact h33)]; exact hC
    refine .skip ?_
    refine hK9 _ ?_
    refine .r ?_ (by simp (disch:=first|exact zd|fail) [g25]; rfl)
    refine ⟨(edL L).length - (i + 1),by omega,i + 1,C,io,rfl,by omega,hC',hio,?_,?_,?_,?_,?_,?_,?_,?_,rfl⟩ <;> first|(simp (disch:=omega) [g0,g1,g6,g23,g24,g25,Ho];done)|omega|(simp;done)|(simp;omega)
  ·try simp only[dc]at h26
   have hin : i = (edL L).length:=by omega
   subst hin
   have hCs : C = eoL L n:=hC
   subst hCs
   refine .exit ?_
   refine hK5 _ ?_
   refine .q ?_ (by simp (disch:=first|exact zd|fail) [g6]; rfl)
   refine .ret ?_
   exact hK _ _ _ _ _ trivial (Fin.own1 (Fin.mk (by simp (disch:=omega) [aRes,aResL,aRes1]; try rfl)) (id:=io) (by simp [Ho])) (⟨io,by first | omega | (simp; done) | (simp; omega),by first | omega | (simp; done) | (simp; omega),rfl,rfl⟩)
set_option maxHeartbeats 4000000 in
theorem edgesS_own (L : List Sg) (n : Int) (hl : L.length ≤ 1099511627776) (zs : sgF L = 0) (hn : 0 ≤ n ∧ n ≤ (L.length : Int) - 1) (nx : Nat) : ACall Tryz.prog 16 [.isl (L.map Sg.cells),.int .i64 n] (fun _=>none) nx (own1 nx 1 (wd .i64 (eoL L n)) (fun id=>.tup [.osl id 0 (eoL L n).length,.bool true])):=by
 obtain ⟨z1,z2⟩:=sgF_zero zs
 have hd : decide (sgF L = 0) = true:=decide_eq_true zs
 have hw : (decide (0 ≤ n) && decide (n ≤ (L.length : Int) - 1)) = true:=by simp; omega
 have hpb : (hitP L).length ≤ 1680:=by rw [hitP_len]; exact ded_b z1 (Nat.le_refl _)
 obtain ⟨eb1,eb2⟩:=edL_b z1 hpb
 refine .b Tryz.func16 58 fun K hK=>?_
 refine .q ?_
 refine .sq fun K2 hK2=>?_
 refine .sq fun K3 hK3=>?_
 refine .region ?_
 refine .kf 1 (l7Ok_fc L (by omega)) hb57 ?_ (by simp (disch:=first|exact zd|fail) [List.take_succ_cons,List.take_zero,hd,hw,List.length_map]; rfl) (ha:=by simp (disch:=first|exact zd|fail) [idf_Wd',hd,hw,List.length_map])
 refine .kf 6 (l1In_fc n 0 ((L.length : Int) - 1)) hb58 ?_ (by simp (disch:=first|exact zd|fail) [List.take_succ_cons,List.take_zero,hd,hw,List.length_map]; rfl) (ha:=by simp (disch:=first|exact zd|fail) [idf_Wd',hd,hw,List.length_map])
 refine .e ?_ (by simp (disch:=first|exact zd|fail) [hd,hw,List.length_map]; rfl)
 refine hK3 _ ?_
 refine .c (fun h20=>?_) (fun h20=>?_)
 ·simp at h20
 ·try simp only[dc]at h20
  refine .skip ?_
  refine hK2 _ ?_
  refine .sq fun K4 hK4=>?_
  refine .region ?_
  refine .kf 1 (l9Plan_fc L z1 z2) hb59 ?_
  refine .e ?_
  refine hK4 _ ?_
  refine .q ?_
  refine .sq fun K6 hK6=>?_
  refine .q ?_
  refine .block ?_
  
  refine .loop (fun N s=>∃ i : Nat,∃ C : List Int,∃ io : Nat,∃ ip : Nat,N = (edL L).length - i ∧ i ≤ (edL L).length ∧ (C = eoF (edL L) n i) ∧ (nx ≤ io ∧ ip < io) ∧ s.env 0 = .isl (L.map Sg.cells) ∧ s.env 1 = .int .i64 (n : Int) ∧ s.env 6 = .ptr ip 0 0 ∧ s.env 7 = .osl io 0 C.length ∧ s.env 8 = .int .i64 (i : Int) ∧ s.heap ip = some (2,[[.isl ((hitP L).map cellS),.isl ((edL L).map edC)]]) ∧ ip < s.nx ∧ s.heap io = some (1,wd .i64 C) ∧ io < s.nx ∧ s.nt = 58) ((edL L).length) (by refine ⟨0,[],(nx + 1),nx,by omega,by omega,rfl,by omega,?_,?_,?_,?_,?_,?_,?_,?_,?_,rfl⟩ <;> first|(simp (disch:=omega) [wd];done)|omega|(simp;done)|(simp;omega)) ?_
  rintro N ⟨e,H,mm,nt⟩ ⟨i,C,io,ip,rfl,hi,hC,hio,g0,g1,g6,g7,g8,Hp,xp,Ho,xo,rfl⟩
  simp only [] at g0 g1 g6 g7 g8 Hp xp Ho xo
  refine .sq fun K8 hK8=>?_
  refine .q ?_ (by simp (disch:=first|exact zd|fail) [g6,g8,Hp,List.length_map]; rfl)
  refine .c (fun h28=>?_) (fun h28=>?_)
  ·try simp only[dc]at h28
   have hi' : i < (edL L).length:=by omega
   obtain ⟨E0,hE0⟩ : ∃ e,e = edq (edL L) i:=⟨_,rfl⟩
   have hat:=edC_at hi'
   rw [← hE0] at hat
   have hae : ∀ h : i < ((edL L).map edC).length,((edL L).map edC)[i] = [.int .i64 E0.1.1,.int .i64 E0.1.2,Wd .i64 E0.2]:=fun h=>by rw [List.getElem?_eq_getElem h] at hat; simpa using hat
   have hpl:=eb2 _ (edq_mem hi')
   rw [← hE0] at hpl
   have hml : ((edL L).map edC).length = (edL L).length:=List.length_map _
   refine .skip ?_
   refine hK8 _ ?_
   refine .sq fun K10 hK10=>?_
   refine .block ?_
   refine .q ?_
   refine .block ?_
   
   refine .loop (fun N s=>∃ k : Nat,∃ C : List Int,∃ io : Nat,∃ ip : Nat,N = E0.2.length - k ∧ k ≤ E0.2.length ∧ (C = eoF (edL L) n i ++ eoT n E0.2 k (i : Int)) ∧ (nx ≤ io ∧ ip < io) ∧ s.env 0 = .isl (L.map Sg.cells) ∧ s.env 1 = .int .i64 (n : Int) ∧ s.env 6 = .ptr ip 0 0 ∧ s.env 7 = .osl io 0 C.length ∧ s.env 8 = .int .i64 (i : Int) ∧ s.env 9 = .int .i64 (k : Int) ∧ s.heap ip = some (2,[[.isl ((hitP L).map cellS),.isl ((edL L).map edC)]]) ∧ ip < s.nx ∧ s.heap io = some (1,wd .i64 C) ∧ io < s.nx ∧ s.nt = 58) (E0.2.length) (by refine ⟨0,C,io,ip,by omega,by omega,by rw [eoT_zero,List.append_nil]; exact hC,hio,?_,?_,?_,?_,?_,?_,?_,?_,?_,?_,rfl⟩ <;> first|(simp (disch:=omega) [g0,g1,g6,g7,g8,Hp,Ho];done)|omega|(simp;done)|(simp;omega)) ?_
   clear g0 g1 g6 g7 g8 Hp xp Ho xo hC hio
   rintro N ⟨e,H,mm,nt⟩ ⟨k,C,io,ip,rfl,hk,hC,hio,g0,g1,g6,g7,g8,g9,Hp,xp,Ho,xo,rfl⟩
   simp only [] at g0 g1 g6 g7 g8 g9 Hp xp Ho xo
   refine .sq fun K12 hK12=>?_
   refine .q ?_ (by simp (disch:=first|exact zd|fail) [if_pos,g6,g8,g9,Hp,hat,hae,hi',hml]; rfl)
   refine .c (fun h39=>?_) (fun h39=>?_)
   ·try simp only[dc]at h39
    have hk' : k < E0.2.length:=by omega
    have hnd:=edL_nodup (edq_mem hi')
    rw [← hE0] at hnd
    refine .skip ?_
    refine hK12 _ ?_
    refine .sq fun K14 hK14=>?_
    refine .block ?_
    refine .q ?_ (by simp (disch:=first|exact zd|fail) [if_pos,g1,g6,g8,g9,Hp,hat,hae,hi',hml,hk']; rfl)
    refine .c (t:=decide (gt E0.2 k = n)) (fun h52=>?_) (fun h52=>?_) (by simp (disch:=first|exact zd|fail) [beqI])
    ·try simp only[dc]at h52
     obtain ⟨t1,t2⟩:=eoT_yes (i:=(i : Int)) hnd hk' h52
     have hC' : C ++ [(i : Int)] = eoF (edL L) n i ++ eoT n E0.2 (k + 1) (i : Int):=by rw [hC,t1,t2,List.append_nil]
     have hCl : C.length ≤ 67202:=by
       have h1:=eoF_len (edL L) n i
       rw [hC,List.length_append]; unfold eoT; split <;> simp <;> omega
     have hc1 : (C.length + 1) * 8 ≤ 140737488355328:=by omega
     have hc2 : C.length ≤ 9223372036854775806:=by omega
     have hwl : (wd .i64 C).length = C.length:=List.length_map _
     have htk : List.take C.length (wd .i64 C) = wd .i64 C:=List.take_of_length_le (Nat.le_of_eq hwl)
     refine .region ?_
     refine .k 3 ?_ (by simp (disch:=first|exact zd|fail) [List.take_succ_cons,List.take_zero,g7,g8]; rfl)
     refine AOPS.opapp (by simp (disch:=first|exact zd|fail) [if_pos,wd_append,wd_take,wd_drop,List.nil_append,hc1,hc2,hwl,htk,Ho,g7]; first | rfl | exact ⟨rfl,rfl⟩ | exact ⟨rfl,rfl,rfl⟩) (by simp) (by simp) ?_
     simp only [puts_some,hdrop]
     refine .e ?_ (by simp (disch:=first|exact zd|fail) [g7,g8]; rfl)
     refine hK14 _ ?_
     refine .r ?_ (by simp (disch:=first|exact zd|fail) [g9]; rfl)
     refine ⟨E0.2.length - (k + 1),by omega,k + 1,C ++ [(i : Int)],(mm + 1),ip,rfl,by omega,hC',by first|omega|(simp;omega),?_,?_,?_,?_,?_,?_,?_,?_,?_,?_,rfl⟩ <;> first|(simp (disch:=omega) [wd_append,List.length_append,hwl,htk,g0,g1,g6,g7,g8,g9,Hp,Ho];done)|omega|(simp;done)|(simp;omega)
    ·try simp only[dc]at h52
     have hC' : C = eoF (edL L) n i ++ eoT n E0.2 (k + 1) (i : Int):=by rw [eoT_no hk' h52]; exact hC
     refine .skip ?_
     refine hK14 _ ?_
     refine .r ?_ (by simp (disch:=first|exact zd|fail) [g9]; rfl)
     refine ⟨E0.2.length - (k + 1),by omega,k + 1,C,io,ip,rfl,by omega,hC',hio,?_,?_,?_,?_,?_,?_,?_,?_,?_,?_,rfl⟩ <;> first|(simp (disch:=omega) [g0,g1,g6,g7,g8,g9,Hp,Ho];done)|omega|(simp;done)|(simp;omega)
   ·try simp only[dc]at h39
    have hC' : C = eoF (edL L) n (i + 1):=by rw [hC,hE0]; exact eoT_end (by rw [← hE0]; omega)
    refine .exit ?_
    refine hK10 _ ?_
    refine .r ?_ (by simp (disch:=first|exact zd|fail) [g8]; rfl)
    refine ⟨(edL L).length - (i + 1),by omega,i + 1,C,io,ip,rfl,by omega,hC',hio,?_,?_,?_,?_,?_,?_,?_,?_,?_,rfl⟩ <;> first|(simp (disch:=omega) [g0,g1,g6,g7,g8,g9,Hp,Ho];done)|omega|(simp;done)|(simp;omega)
  ·try simp only[dc]at h28
   have hin : i = (edL L).length:=by omega
   subst hin
   have hCs : C = eoL L n:=hC
   subst hCs
   refine .exit ?_
   refine hK6 _ ?_
   refine .q ?_ (by simp (disch:=first|exact zd|fail) [g7]; rfl)
   refine .ret ?_
   exact hK _ _ _ _ _ trivial (Fin.own1 (Fin.mk (by simp (disch:=omega) [aRes,aResL,aRes1]; try rfl)) (id:=io) (by simp [Ho])) (⟨io,by first | omega | (simp; done) | (simp; omega),by first | omega | (simp; done) | (simp; omega),rfl,rfl⟩)
end

end Go.Proofs.YtjbbbkfdcegfmaaGreat

/- Walks: FnExactEdgesOn: the law. -/
namespace Go.Proofs.YtjbbbkfdcegfmaaGreat
open Go Go.RowKit
set_option linter.unusedSimpArgs false
set_option linter.unusedVariables false
set_option maxRecDepth 100000
attribute [local simp] szT2 byT2 agT2 unT2 zoT2 szT3 byT3 agT3 unT3 zoT3 szT4 byT4 agT4 unT4 zoT4 szT24 byT24 agT24 elT24 unT24 zoT24 srT24 ixT24 lnT24

theorem lv_Wd4 (H : Heap) (l : List Int) : lv H 4 (Wd .i64 l) = Wd .i64 l:=by unfold Wd; rw [YtjbbbkfdcegfmaaGreat.lv,lv_wd]
theorem mZ_take (k : Int) (m : Nat) : List.take m (wd .i64 (mZ k m)) = wd .i64 (mZ k m):=List.take_of_length_le (by rw [wd_len,mZ_len]; exact Nat.le_refl _)
theorem isl_wd (l : List Int) : AV.isl (wd .i64 l) = Wd .i64 l:=rfl

theorem hpb_of {L : List Sg} (hz : sgF L = 0) : (hitP L).length ≤ 1680:=by rw [hitP_len]; exact ded_b (sgF_zero hz).1 (Nat.le_refl _)
theorem edgesS_fc (L : List Sg) (n : Int) (hl : L.length ≤ 1099511627776) (zs : sgF L = 0) (hn : 0 ≤ n ∧ n ≤ (L.length : Int) - 1) : FC Tryz.prog 16 [.isl (L.map Sg.cells),.int .i64 n] (.tup [Wd .i64 (eoL L n),.bool true]) :=
  FC.of_own (z:=1) (es:=wd .i64 (eoL L n)) (mk:=fun id=>.tup [.osl id 0 (eoL L n).length,.bool true]) (by simp [idfL,idf,idfLL_iff,Sg.cells]) (by simp [idf,idfL,idf_Wd']) (fun id=>by rw [fz,fzL,fzL,fzL,fz_wd rfl]; rfl) fun nx=>edgesS_own L n hl zs hn nx

set_option maxHeartbeats 1000000 in
theorem eqInt64S_nil  : FC Tryz.prog 19 [.nsl,.nsl] (.bool true):=by
 refine .b Tryz.func19 26 (fun nx K hK=>?_)
 refine .q ?_
 refine .sq fun K2 hK2=>?_
 refine .q ?_
 refine .c (t:=false) (fun h10=>?_) (fun h10=>?_)
 ·simp at h10
 ·try simp only[dc]at h10
  refine .skip ?_
  refine hK2 _ ?_
  refine .sq fun K4 hK4=>?_
  refine .q ?_
  refine .block ?_
  
  refine .loop (fun N s=>∃ i : Nat,N = 0 - i ∧ i ≤ 0 ∧ s.env 0 = .nsl ∧ s.env 5 = .int .i64 (i : Int) ∧ s.nt = 26) (0) (by refine ⟨0,by omega,by omega,?_,?_,rfl⟩ <;> first|(simp (disch:=omega);done)|omega|(simp;done)|(simp;omega)) ?_
  rintro N ⟨e,H,mm,nt⟩ ⟨i,rfl,hi,g0,g5,rfl⟩
  simp only [] at g0 g5
  refine .sq fun K6 hK6=>?_
  refine .q ?_ (by simp (disch:=first|exact zd|fail) [g0,g5]; rfl)
  refine .c (t:=decide ((i : Int) < 0)) (fun h14=>?_) (fun h14=>?_)
  ·simp at h14; omega
  ·try simp only[dc]at h14
   refine .exit ?_
   refine hK4 _ ?_
   refine .q ?_
   refine .ret ?_
   exact hK _ _ _ _ trivial (Fin.m)
set_option maxHeartbeats 1000000 in
theorem markInt64S_nil (k : Int) : FC Tryz.prog 22 [.nsl,.int .i64 k] (.int .i64 k):=by
 refine .b Tryz.func22 19 (fun nx K hK=>?_)
 refine .q ?_
 refine .sq fun K2 hK2=>?_
 refine .q ?_
 refine .block ?_
 
 refine .loop (fun N s=>∃ i : Nat,N = 0 - i ∧ i ≤ 0 ∧ s.env 0 = .nsl ∧ s.env 1 = .int .i64 k ∧ s.env 5 = .int .i64 (i : Int) ∧ s.nt = 19) (0) (by refine ⟨0,by omega,by omega,?_,?_,?_,rfl⟩ <;> first|(simp (disch:=omega);done)|omega|(simp;done)|(simp;omega)) ?_
 rintro N ⟨e,H,mm,nt⟩ ⟨i,rfl,hi,g0,g1,g5,rfl⟩
 simp only [] at g0 g1 g5
 refine .sq fun K4 hK4=>?_
 refine .q ?_ (by simp (disch:=first|exact zd|fail) [g0,g5]; rfl)
 refine .c (t:=decide ((i : Int) < 0)) (fun h9=>?_) (fun h9=>?_)
 ·simp at h9; omega
 ·try simp only[dc]at h9
  refine .exit ?_
  refine hK2 _ ?_
  refine .q ?_ (by simp (disch:=first|exact zd|fail) [g1]; rfl)
  refine .ret ?_
  exact hK _ _ _ _ trivial (Fin.m)
set_option maxHeartbeats 1000000 in
theorem heldInt64S_nil (k : Int) : FC Tryz.prog 23 [.nsl,.int .i64 k] (.int .i64 k):=by
 refine .b Tryz.func23 21 (fun nx K hK=>?_)
 refine .q ?_
 refine .sq fun K2 hK2=>?_
 refine .q ?_
 refine .block ?_
 
 refine .loop (fun N s=>∃ i : Nat,N = 0 - i ∧ i ≤ 0 ∧ s.env 0 = .nsl ∧ s.env 1 = .int .i64 k ∧ s.env 5 = .int .i64 (i : Int) ∧ s.nt = 21) (0) (by refine ⟨0,by omega,by omega,?_,?_,?_,rfl⟩ <;> first|(simp (disch:=omega);done)|omega|(simp;done)|(simp;omega)) ?_
 rintro N ⟨e,H,mm,nt⟩ ⟨i,rfl,hi,g0,g1,g5,rfl⟩
 simp only [] at g0 g1 g5
 refine .sq fun K4 hK4=>?_
 refine .q ?_ (by simp (disch:=first|exact zd|fail) [g0,g5]; rfl)
 refine .c (t:=decide ((i : Int) < 0)) (fun h9=>?_) (fun h9=>?_)
 ·simp at h9; omega
 ·try simp only[dc]at h9
  refine .exit ?_
  refine hK2 _ ?_
  refine .q ?_ (by simp (disch:=first|exact zd|fail) [g1]; rfl)
  refine .ret ?_
  exact hK _ _ _ _ trivial (Fin.m)
section
attribute [local simp] idf_numS cells_numS numS_fold idf_numI cells_numI numI_fold
set_option maxHeartbeats 4000000 in
theorem fnExactEdgesOn_yes (L : List Sg) (x : Int) (hl : L.length ≤ 9223372036854775807) (hz : sgF L = 0) (hx : 0 ≤ x ∧ x ≤ (L.length : Int) - 1) : FC Tryz.prog 3 [.isl (L.map Sg.cells),.int .i64 x] (.bool true):=by
 refine .b Tryz.func3 101 (fun nx K hK=>?_) (hi:=by simp [idfL,idf,idfLL_iff,Sp.av,Sp.cells,Sg.av,Sg.cells])
 refine .q ?_
 refine .q ?_
 refine .sq fun K3 hK3=>?_
 refine .region ?_
 refine .kf 2 (szSegS_fc L 1048576 (by omega) (by omega) hl) hb15 ?_
 refine .e ?_
 refine hK3 _ ?_
 refine .sq fun K4 hK4=>?_
 refine .q ?_
 refine .c (t:=decide (szN L.length 1048576 < 0)) (fun h20=>?_) (fun h20=>?_)
 ·try simp only[dc]at h20
  refine .q ?_
  refine .ret ?_
  exact hK _ _ _ _ trivial ((Fin.m))
 ·try simp only[dc]at h20
  obtain ⟨k1,_⟩:=szN_le h20
  have k2 : L.length ≤ 1048576:=by omega
  have k3 : L.length ≤ 1099511627776:=by omega
  obtain ⟨n,hLl⟩ : ∃ n,L.length = n:=⟨_,rfl⟩
  have tkL : List.take n (L.map Sg.cells) = L.map Sg.cells:=List.take_of_length_le (by rw [List.length_map]; omega)
  have own0:=fun nx=>toSegS_own L k2 nx
  rw [hLl] at own0
  have neg4 : decide (1 + 4 * (n : Int) < 0) = false:=by simp; omega
  obtain ⟨W,hW⟩ : ∃ W,W = eoL L x:=⟨_,rfl⟩
  obtain ⟨m,hpl⟩ : ∃ m,W.length = m:=⟨_,rfl⟩
  have tkW : List.take m (wd .i64 W) = wd .i64 W:=List.take_of_length_le (by rw [wd_len]; omega)
  have own1':=fun nx=>edgesI_own L x k3 hz hx nx
  have fcS:=edgesS_fc L x k3 hz hx
  rw [← hW,hpl] at own1'
  rw [← hW] at fcS
  have hm : m ≤ 67200:=by rw [← hpl,hW]; exact Nat.le_trans (eoF_len _ _ _) (edL_b (sgF_zero hz).1 (hpb_of hz)).1
  have tkZ:=hpl
  have neg1 : decide (1 + (m : Int) < 0) = false:=by simp; omega
  have nwW : ∀ k,∀ r ∈ wd .i64 W,nwrL k r:=fun k r h=>nwr_wdZ k W r h
  refine .skip ?_
  refine hK4 _ ?_
  refine .sq fun K7 hK7=>?_
  refine .region ?_
  refine .kf 1 (toSegS_fc L k2) hb17 ?_
  refine .kf 1 fcS hb16 ?_
  refine .e ?_
  refine hK7 _ ?_
  refine .sq fun K8 hK8=>?_
  refine .region ?_
  refine .k 1 ?_
  refine AOPS.ocallL 4 (own0 _) rfl rfl rfl hb17 (by simp (disch:=first|exact zd|fail) [lv,idf_Wd',lv_sp,lv_sg,lv_m2,lv_int,lv_bool,lv_nsl,lv_Wd4,lv_wd,List.map_map,List.length_map,hLl,hpl,tkL,tkW,tkZ,mZ_take,wd_len,mZ_len,isl_wd]) (⟨fun _ h=>by simp [nwr,nwrL]; try exact h,by simp [nwr,nwrL,Sg.cells]⟩) (by simp (disch:=first|exact zd|fail)) (by simp) ?_
  intro ix nx2 nx2a nx2b
  simp only [] at nx2a nx2b
  simp only [puts_some,updo]
  refine .e ?_
  refine hK8 _ ?_
  refine .sq fun K9 hK9=>?_
  refine .region ?_
  refine .k 2 ?_
  refine AOPS.ocallL 4 (own1' _) rfl rfl rfl hb18 (by simp (disch:=first|exact zd|fail) [lv,idf_Wd',lv_sp,lv_sg,lv_m2,lv_int,lv_bool,lv_nsl,lv_Wd4,lv_wd,List.map_map,List.length_map,hLl,hpl,tkL,tkW,tkZ,mZ_take,wd_len,mZ_len,isl_wd]) (⟨fun _ h=>by simp [nwr,nwrL]; try exact h,nwW _⟩) (by simp (disch:=first|exact zd|fail)) (by simp) ?_
  intro ig nx3 nx3a nx3b
  simp only [] at nx3a nx3b
  simp only [puts_some,updo]
  refine .e ?_
  refine hK9 _ ?_
  refine .sq fun K10 hK10=>?_
  refine .sq fun K11 hK11=>?_
  refine .region ?_
  refine .k 2 ?_ (by simp (disch:=first|exact zd|fail) [List.take_succ_cons,List.take_zero,hLl,hpl]; rfl)
  refine AOPS.lcall 4 (eqInt64S_fc W (by omega)) rfl rfl rfl hb19 (by simp (disch:=first|exact zd|fail) [lv,idf_Wd',lv_sp,lv_sg,lv_m2,lv_int,lv_bool,lv_nsl,lv_Wd4,lv_wd,List.map_map,List.length_map,hLl,hpl,tkL,tkW,tkZ,mZ_take,wd_len,mZ_len,isl_wd,hLl,hpl]) (by simp [atm,atmL]) (by simp (disch:=first|exact zd|fail) [hLl,hpl]) (by simp) ?_
  simp only [puts_some,updo]
  refine .e ?_ (by simp (disch:=first|exact zd|fail) [hLl,hpl]; rfl)
  refine hK11 _ ?_
  refine .c (fun h44=>?_) (fun h44=>?_)
  ·simp at h44
  ·try simp only[dc]at h44
   refine .skip ?_
   refine hK10 _ ?_
   refine .sq fun K12 hK12=>?_
   refine .sq fun K13 hK13=>?_
   refine .region ?_
   refine .kf 2 (toSegS_fc L k2) hb17 ?_ (by simp (disch:=first|exact zd|fail) [List.take_succ_cons,List.take_zero,hLl]; rfl) (ha:=by simp (disch:=first|exact zd|fail) [idf_Wd',hLl])
   refine AOPS.lcall 4 (eqSegS_fc L hl) rfl rfl rfl hb20 (by simp (disch:=first|exact zd|fail) [lv,idf_Wd',lv_sp,lv_sg,lv_m2,lv_int,lv_bool,lv_nsl,lv_Wd4,lv_wd,List.map_map,List.length_map,hLl,hpl,tkL,tkW,tkZ,mZ_take,wd_len,mZ_len,isl_wd,hLl]) (by simp [atm,atmL]) (by simp (disch:=first|exact zd|fail) [hLl]) (by simp) ?_
   simp only [puts_some,updo]
   refine .e ?_ (by simp (disch:=first|exact zd|fail) [hLl]; rfl)
   refine hK13 _ ?_
   refine .c (fun h49=>?_) (fun h49=>?_)
   ·simp at h49
   ·try simp only[dc]at h49
    refine .skip ?_
    refine hK12 _ ?_
    refine .q ?_
    refine .sq fun K15 hK15=>?_
    have J15 : ∀ s : St,(∃ ig : Nat,s.env 0 = .isl (L.map Sg.cells) ∧ s.env 1 = .int .i64 x ∧ s.env 6 = Wd .i64 W ∧ s.env 7 = .bool true ∧ s.env 9 = .osl ig 0 m ∧ s.env 10 = .bool true ∧ s.env 11 = .int .i64 (1 + 4 * (n : Int)) ∧ s.heap ig = some (1,wd .i64 W) ∧ ig < s.nx ∧ s.nt = 101) → K15 s:=by
     rintro ⟨e0,H,mm,nt⟩ ⟨ig,g0,g1,g6,g7,g9,g10,g11,HG,xG,rfl⟩
     simp only [] at g0 g1 g6 g7 g9 g10 g11 HG xG
     refine hK15 _ ?_
     refine .sq fun K16 hK16=>?_
     refine .sq fun K17 hK17=>?_
     refine .region ?_
     refine .k 5 ?_ (by simp (disch:=first|exact zd|fail) [List.take_succ_cons,List.take_zero,g0,g1,g6,g7,g9,g10,g11,HG,neg4]; rfl)
     refine AOPS.lcall 4 (eqInt64S_fc W (by omega)) rfl rfl rfl hb19 (by simp (disch:=first|exact zd|fail) [lv,idf_Wd',lv_sp,lv_sg,lv_m2,lv_int,lv_bool,lv_nsl,lv_Wd4,lv_wd,List.map_map,List.length_map,hLl,hpl,tkL,tkW,tkZ,mZ_take,wd_len,mZ_len,isl_wd,g0,g1,g6,g7,g9,g10,g11,HG,neg4]) (by simp [atm,atmL]) (by simp (disch:=first|exact zd|fail) [g0,g1,g6,g7,g9,g10,g11,HG,neg4]) (by simp) ?_
     simp only [puts_some,updo]
     refine .e ?_ (by simp (disch:=first|exact zd|fail) [g0,g1,g6,g7,g9,g10,g11,HG,neg4]; rfl)
     refine hK17 _ ?_
     refine .c (fun h65=>?_) (fun h65=>?_)
     ·simp at h65
     ·try simp only[dc]at h65
      refine .skip ?_
      refine hK16 _ ?_
      refine .q ?_
      refine .sq fun K19 hK19=>?_
      have J19 : ∀ s : St,(∃ ig : Nat,s.env 0 = .isl (L.map Sg.cells) ∧ s.env 1 = .int .i64 x ∧ s.env 6 = Wd .i64 W ∧ s.env 7 = .bool true ∧ s.env 9 = .osl ig 0 m ∧ s.env 10 = .bool true ∧ s.env 12 = .int .i64 (1 + (m : Int)) ∧ s.heap ig = some (1,wd .i64 (mZ 1 m)) ∧ ig < s.nx ∧ s.nt = 101) → K19 s:=by
       clear g0 g1 g6 g7 g9 g10 g11 HG xG
       rintro ⟨e0,H,mm,nt⟩ ⟨ig,g0,g1,g6,g7,g9,g10,g12,HG,xG,rfl⟩
       simp only [] at g0 g1 g6 g7 g9 g10 g12 HG xG
       refine hK19 _ ?_
       refine .q ?_
       refine .sq fun K21 hK21=>?_
       refine .region ?_
       refine .k 2 ?_ (by simp (disch:=first|exact zd|fail) [List.take_succ_cons,List.take_zero,g0,g1,g6,g7,g9,g10,g12,HG]; rfl)
       refine AOPS.lcall 4 (heldInt64S_fc m 1 (by omega) (by omega) (by omega)) rfl rfl rfl hb23 (by simp (disch:=first|exact zd|fail) [lv,idf_Wd',lv_sp,lv_sg,lv_m2,lv_int,lv_bool,lv_nsl,lv_Wd4,lv_wd,List.map_map,List.length_map,hLl,hpl,tkL,tkW,tkZ,mZ_take,wd_len,mZ_len,isl_wd,g0,g1,g6,g7,g9,g10,g12,HG]) (by simp [atm,atmL]) (by simp (disch:=first|exact zd|fail) [g0,g1,g6,g7,g9,g10,g12,HG]) (by simp) ?_
       simp only [puts_some,updo]
       refine .e ?_ (by simp (disch:=first|exact zd|fail) [g0,g1,g6,g7,g9,g10,g12,HG]; rfl)
       refine hK21 _ ?_
       refine .sq fun K22 hK22=>?_
       refine .q ?_ (by simp (disch:=first|exact zd|fail) [neg1]; rfl)
       refine .c (fun h73=>?_) (fun h73=>?_)
       ·simp at h73
       ·try simp only[dc]at h73
        refine .skip ?_
        refine hK22 _ ?_
        refine .sq fun K24 hK24=>?_
        refine .q ?_ (by simp (disch:=first|exact zd|fail) [g12]; rfl)
        refine .c (fun h76=>?_) (fun h76=>?_)
        ·simp at h76
        ·try simp only[dc]at h76
         refine .skip ?_
         refine hK24 _ ?_
         refine .sq fun K26 hK26=>?_
         refine .region ?_
         refine .kf 1 (toSegS_fc L k2) hb17 ?_ (by simp (disch:=first|exact zd|fail) [List.take_succ_cons,List.take_zero,g0,g1]; rfl) (ha:=by simp (disch:=first|exact zd|fail) [idf_Wd',g0,g1])
         refine .k 1 ?_ (by simp (disch:=first|exact zd|fail) [List.take_succ_cons,List.take_zero,g0,g1]; rfl)
         refine AOPS.ocallL 4 (own1' _) rfl rfl rfl hb18 (by simp (disch:=first|exact zd|fail) [lv,idf_Wd',lv_sp,lv_sg,lv_m2,lv_int,lv_bool,lv_nsl,lv_Wd4,lv_wd,List.map_map,List.length_map,hLl,hpl,tkL,tkW,tkZ,mZ_take,wd_len,mZ_len,isl_wd,g0,g1]) (⟨fun _ h=>by simp [nwr,nwrL]; try exact h,nwW _⟩) (by simp (disch:=first|exact zd|fail) [g0,g1]) (by simp) ?_
         intro ih nx6 nx6a nx6b
         simp only [] at nx6a nx6b
         simp only [puts_some,updo]
         refine .e ?_ (by simp (disch:=first|exact zd|fail) [g0,g1]; rfl)
         refine hK26 _ ?_
         refine .sq fun K27 hK27=>?_
         refine .sq fun K28 hK28=>?_
         refine .region ?_
         refine .k 2 ?_ (by simp (disch:=first|exact zd|fail) [List.take_succ_cons,List.take_zero,g6,g7]; rfl)
         refine AOPS.lcall 4 (eqInt64S_fc W (by omega)) rfl rfl rfl hb19 (by simp (disch:=first|exact zd|fail) [lv,idf_Wd',lv_sp,lv_sg,lv_m2,lv_int,lv_bool,lv_nsl,lv_Wd4,lv_wd,List.map_map,List.length_map,hLl,hpl,tkL,tkW,tkZ,mZ_take,wd_len,mZ_len,isl_wd,g6,g7]) (by simp [atm,atmL]) (by simp (disch:=first|exact zd|fail) [g6,g7]) (by simp) ?_
         simp only [puts_some,updo]
         refine .e ?_ (by simp (disch:=first|exact zd|fail) [g6,g7]; rfl)
         refine hK28 _ ?_
         refine .c (fun h92=>?_) (fun h92=>?_)
         ·simp at h92
         ·try simp only[dc]at h92
          refine .skip ?_
          refine hK27 _ ?_
          refine .q ?_
          refine .sq fun K30 hK30=>?_
          refine .region ?_
          refine .k 2 ?_ (by simp (disch:=first|exact zd|fail) [List.take_succ_cons,List.take_zero,g9,HG]; rfl)
          refine AOPS.lcall 4 (heldInt64S_fc m 1 (by omega) (by omega) (by omega)) rfl rfl rfl hb23 (by simp (disch:=first|exact zd|fail) [lv,idf_Wd',lv_sp,lv_sg,lv_m2,lv_int,lv_bool,lv_nsl,lv_Wd4,lv_wd,List.map_map,List.length_map,hLl,hpl,tkL,tkW,tkZ,mZ_take,wd_len,mZ_len,isl_wd,g9,HG]) (by simp [atm,atmL]) (by simp (disch:=first|exact zd|fail) [g9,HG]) (by simp) ?_
          simp only [puts_some,updo]
          refine .e ?_ (by simp (disch:=first|exact zd|fail) [g9,HG]; rfl)
          refine hK30 _ ?_
          refine .sq fun K31 hK31=>?_
          refine .q ?_ (by simp (disch:=first|exact zd|fail) [neg1]; rfl)
          refine .c (fun h97=>?_) (fun h97=>?_)
          ·simp at h97
          ·try simp only[dc]at h97
           refine .skip ?_
           refine hK31 _ ?_
           refine .sq fun K33 hK33=>?_
           refine .q ?_ (by simp (disch:=first|exact zd|fail) [g12]; rfl)
           refine .c (fun h100=>?_) (fun h100=>?_)
           ·simp at h100
           ·try simp only[dc]at h100
            refine .skip ?_
            refine hK33 _ ?_
            refine .q ?_
            refine .ret ?_
            exact hK _ _ _ _ trivial ((Fin.m))
      refine .region ?_
      refine .k 2 ?_ (by simp (disch:=first|exact zd|fail) [List.take_succ_cons,List.take_zero,g0,g1,g6,g7,g9,g10,g11,HG]; rfl)
      refine .a (markInt64S_ac m ig (wd .i64 W) 1 _ _ (by simp (disch:=omega) [HG]) (by rw [wd_len]; exact hpl) (wd_row1 _) (by omega) (by omega) (by omega)) hb22 ?_ (ha:=by simp (disch:=first|exact zd|fail) [idf_Wd',g0,g1,g6,g7,g9,g10,g11,HG])
      rintro _ _ _ ⟨rfl,rfl,rfl⟩
      refine .e ?_ (by simp (disch:=first|exact zd|fail) [g0,g1,g6,g7,g9,g10,g11,HG]; rfl)
      refine J19 _ ?_
      refine ⟨ig,?_,?_,?_,?_,?_,?_,?_,?_,?_,rfl⟩ <;> first|(simp (disch:=omega) [g0,g1,g6,g7,g9,g10,g11,HG,m1_wd];done)|omega|(simp;omega)
    refine .region ?_
    refine .k 2 ?_
    refine .a (markSegS_ac n ix (L.map Sg.cells) 1 _ _ (by simp (disch:=omega)) (by rw [List.length_map]; exact hLl) (sgrow_len L) (by omega) (by omega) (by omega)) hb21 ?_
    rintro _ _ _ ⟨rfl,rfl,rfl⟩
    refine .e ?_
    refine J15 _ ?_
    refine ⟨ig,?_,?_,?_,?_,?_,?_,?_,?_,?_,rfl⟩ <;> first|(simp (disch:=omega);done)|omega|(simp;omega)
set_option maxHeartbeats 4000000 in
theorem fnExactEdgesOn_no (L : List Sg) (x : Int) (hl : L.length ≤ 9223372036854775807) (hz : ¬ (sgF L = 0 ∧ 0 ≤ x ∧ x ≤ (L.length : Int) - 1)) : FC Tryz.prog 3 [.isl (L.map Sg.cells),.int .i64 x] (.bool true):=by
 refine .b Tryz.func3 101 (fun nx K hK=>?_) (hi:=by simp [idfL,idf,idfLL_iff,Sp.av,Sp.cells,Sg.av,Sg.cells])
 refine .q ?_
 refine .q ?_
 refine .sq fun K3 hK3=>?_
 refine .region ?_
 refine .kf 2 (szSegS_fc L 1048576 (by omega) (by omega) hl) hb15 ?_
 refine .e ?_
 refine hK3 _ ?_
 refine .sq fun K4 hK4=>?_
 refine .q ?_
 refine .c (t:=decide (szN L.length 1048576 < 0)) (fun h20=>?_) (fun h20=>?_)
 ·try simp only[dc]at h20
  refine .q ?_
  refine .ret ?_
  exact hK _ _ _ _ trivial ((Fin.m))
 ·try simp only[dc]at h20
  obtain ⟨k1,_⟩:=szN_le h20
  have k2 : L.length ≤ 1048576:=by omega
  have k3 : L.length ≤ 1099511627776:=by omega
  obtain ⟨n,hLl⟩ : ∃ n,L.length = n:=⟨_,rfl⟩
  have tkL : List.take n (L.map Sg.cells) = L.map Sg.cells:=List.take_of_length_le (by rw [List.length_map]; omega)
  have own0:=fun nx=>toSegS_own L k2 nx
  rw [hLl] at own0
  have neg4 : decide (1 + 4 * (n : Int) < 0) = false:=by simp; omega
  refine .skip ?_
  refine hK4 _ ?_
  refine .sq fun K7 hK7=>?_
  refine .region ?_
  refine .kf 1 (toSegS_fc L k2) hb17 ?_
  refine .kf 1 (edgesS_no L x k3 hz) hb16 ?_
  refine .e ?_
  refine hK7 _ ?_
  refine .sq fun K8 hK8=>?_
  refine .region ?_
  refine .k 1 ?_
  refine AOPS.ocallL 4 (own0 _) rfl rfl rfl hb17 (by simp (disch:=first|exact zd|fail) [lv,idf_Wd',lv_sp,lv_sg,lv_m2,lv_int,lv_bool,lv_nsl,List.map_map,List.length_map,hLl,tkL]) (⟨fun _ h=>by simp [nwr,nwrL]; try exact h,by simp [nwr,nwrL,Sg.cells]⟩) (by simp (disch:=first|exact zd|fail)) (by simp) ?_
  intro ix nx2 nx2a nx2b
  simp only [] at nx2a nx2b
  simp only [puts_some,updo]
  refine .e ?_
  refine hK8 _ ?_
  refine .sq fun K9 hK9=>?_
  refine .region ?_
  refine .k 2 ?_
  refine AOPS.lcall 4 (edgesI_no L x k3 hz) rfl rfl rfl hb18 (by simp (disch:=first|exact zd|fail) [lv,idf_Wd',lv_sp,lv_sg,lv_m2,lv_int,lv_bool,lv_nsl,List.map_map,List.length_map,hLl,tkL]) (by simp [atm,atmL]) (by simp (disch:=first|exact zd|fail)) (by simp) ?_
  simp only [puts_some,updo]
  refine .e ?_
  refine hK9 _ ?_
  refine .sq fun K10 hK10=>?_
  refine .sq fun K11 hK11=>?_
  refine .region ?_
  refine .kf 2 eqInt64S_nil hb19 ?_
  refine .e ?_
  refine hK11 _ ?_
  refine .c (fun h44=>?_) (fun h44=>?_)
  ·simp at h44
  ·try simp only[dc]at h44
   refine .skip ?_
   refine hK10 _ ?_
   refine .sq fun K12 hK12=>?_
   refine .sq fun K13 hK13=>?_
   refine .region ?_
   refine .kf 2 (toSegS_fc L k2) hb17 ?_ (by simp (disch:=first|exact zd|fail) [List.take_succ_cons,List.take_zero,hLl]; rfl) (ha:=by simp (disch:=first|exact zd|fail) [idf_Wd',hLl])
   refine AOPS.lcall 4 (eqSegS_fc L hl) rfl rfl rfl hb20 (by simp (disch:=first|exact zd|fail) [lv,idf_Wd',lv_sp,lv_sg,lv_m2,lv_int,lv_bool,lv_nsl,List.map_map,List.length_map,hLl,tkL,hLl]) (by simp [atm,atmL]) (by simp (disch:=first|exact zd|fail) [hLl]) (by simp) ?_
   simp only [puts_some,updo]
   refine .e ?_ (by simp (disch:=first|exact zd|fail) [hLl]; rfl)
   refine hK13 _ ?_
   refine .c (fun h49=>?_) (fun h49=>?_)
   ·simp at h49
   ·try simp only[dc]at h49
    refine .skip ?_
    refine hK12 _ ?_
    refine .q ?_
    refine .sq fun K15 hK15=>?_
    have J15 : ∀ s : St,(s.env 0 = .isl (L.map Sg.cells) ∧ s.env 1 = .int .i64 x ∧ s.env 6 = .nsl ∧ s.env 7 = .bool false ∧ s.env 9 = .nsl ∧ s.env 10 = .bool false ∧ s.env 11 = .int .i64 (1 + 4 * (n : Int)) ∧ s.nt = 101) → K15 s:=by
     rintro ⟨e0,H,mm,nt⟩ ⟨g0,g1,g6,g7,g9,g10,g11,rfl⟩
     simp only [] at g0 g1 g6 g7 g9 g10 g11
     refine hK15 _ ?_
     refine .sq fun K16 hK16=>?_
     refine .sq fun K17 hK17=>?_
     refine .region ?_
     refine .kf 5 eqInt64S_nil hb19 ?_ (by simp (disch:=first|exact zd|fail) [List.take_succ_cons,List.take_zero,g0,g1,g6,g7,g9,g10,g11,neg4]; rfl) (ha:=by simp (disch:=first|exact zd|fail) [idf_Wd',g0,g1,g6,g7,g9,g10,g11,neg4])
     refine .e ?_ (by simp (disch:=first|exact zd|fail) [g0,g1,g6,g7,g9,g10,g11,neg4]; rfl)
     refine hK17 _ ?_
     refine .c (fun h65=>?_) (fun h65=>?_)
     ·simp at h65
     ·try simp only[dc]at h65
      refine .skip ?_
      refine hK16 _ ?_
      refine .q ?_
      refine .sq fun K19 hK19=>?_
      refine .region ?_
      refine .kf 2 (markInt64S_nil 1) hb22 ?_ (by simp (disch:=first|exact zd|fail) [List.take_succ_cons,List.take_zero,g0,g1,g6,g7,g9,g10,g11]; rfl) (ha:=by simp (disch:=first|exact zd|fail) [idf_Wd',g0,g1,g6,g7,g9,g10,g11])
      refine .e ?_ (by simp (disch:=first|exact zd|fail) [g0,g1,g6,g7,g9,g10,g11]; rfl)
      refine hK19 _ ?_
      refine .q ?_
      refine .sq fun K21 hK21=>?_
      refine .region ?_
      refine .kf 2 (heldInt64S_nil 1) hb23 ?_ (by simp (disch:=first|exact zd|fail) [List.take_succ_cons,List.take_zero,g0,g1,g6,g7,g9,g10,g11]; rfl) (ha:=by simp (disch:=first|exact zd|fail) [idf_Wd',g0,g1,g6,g7,g9,g10,g11])
      refine .e ?_ (by simp (disch:=first|exact zd|fail) [g0,g1,g6,g7,g9,g10,g11]; rfl)
      refine hK21 _ ?_
      refine .sq fun K22 hK22=>?_
      refine .q ?_
      refine .c (fun h73=>?_) (fun h73=>?_)
      ·simp at h73
      ·try simp only[dc]at h73
       refine .skip ?_
       refine hK22 _ ?_
       refine .sq fun K24 hK24=>?_
       refine .q ?_
       refine .c (fun h76=>?_) (fun h76=>?_)
       ·simp at h76
       ·try simp only[dc]at h76
        refine .skip ?_
        refine hK24 _ ?_
        refine .sq fun K26 hK26=>?_
        refine .region ?_
        refine .kf 1 (toSegS_fc L k2) hb17 ?_ (by simp (disch:=first|exact zd|fail) [List.take_succ_cons,List.take_zero,g0,g1]; rfl) (ha:=by simp (disch:=first|exact zd|fail) [idf_Wd',g0,g1])
        refine .kf 1 (edgesI_no L x k3 hz) hb18 ?_ (by simp (disch:=first|exact zd|fail) [List.take_succ_cons,List.take_zero,g0,g1]; rfl) (ha:=by simp (disch:=first|exact zd|fail) [idf_Wd',g0,g1])
        refine .e ?_ (by simp (disch:=first|exact zd|fail) [g0,g1]; rfl)
        refine hK26 _ ?_
        refine .sq fun K27 hK27=>?_
        refine .sq fun K28 hK28=>?_
        refine .region ?_
        refine .kf 2 eqInt64S_nil hb19 ?_ (by simp (disch:=first|exact zd|fail) [List.take_succ_cons,List.take_zero,g6,g7]; rfl) (ha:=by simp (disch:=first|exact zd|fail) [idf_Wd',g6,g7])
        refine .e ?_ (by simp (disch:=first|exact zd|fail) [g6,g7]; rfl)
        refine hK28 _ ?_
        refine .c (fun h92=>?_) (fun h92=>?_)
        ·simp at h92
        ·try simp only[dc]at h92
         refine .skip ?_
         refine hK27 _ ?_
         refine .q ?_
         refine .sq fun K30 hK30=>?_
         refine .region ?_
         refine .kf 2 (heldInt64S_nil 1) hb23 ?_ (by simp (disch:=first|exact zd|fail) [List.take_succ_cons,List.take_zero,g9]; rfl) (ha:=by simp (disch:=first|exact zd|fail) [idf_Wd',g9])
         refine .e ?_ (by simp (disch:=first|exact zd|fail) [g9]; rfl)
         refine hK30 _ ?_
         refine .sq fun K31 hK31=>?_
         refine .q ?_
         refine .c (fun h97=>?_) (fun h97=>?_)
         ·simp at h97
         ·try simp only[dc]at h97
          refine .skip ?_
          refine hK31 _ ?_
          refine .sq fun K33 hK33=>?_
          refine .q ?_
          refine .c (fun h100=>?_) (fun h100=>?_)
          ·simp at h100
          ·try simp only[dc]at h100
           refine .skip ?_
           refine hK33 _ ?_
           refine .q ?_
           refine .ret ?_
           exact hK _ _ _ _ trivial ((Fin.m))
    refine .region ?_
    refine .k 2 ?_
    refine .a (markSegS_ac n ix (L.map Sg.cells) 1 _ _ (by simp (disch:=omega)) (by rw [List.length_map]; exact hLl) (sgrow_len L) (by omega) (by omega) (by omega)) hb21 ?_
    rintro _ _ _ ⟨rfl,rfl,rfl⟩
    refine .e ?_
    refine J15 _ ?_
    refine ⟨?_,?_,?_,?_,?_,?_,?_,rfl⟩ <;> first|(simp (disch:=omega);done)|omega|(simp;omega)
end
theorem fnExactEdgesOn_fc (L : List Sg) (x : Int) (hl : L.length ≤ 9223372036854775807) : FC Tryz.prog 3 [.isl (L.map Sg.cells),.int .i64 x] (.bool true):=by
  by_cases hz : sgF L = 0 ∧ 0 ≤ x ∧ x ≤ (L.length : Int) - 1
  · exact fnExactEdgesOn_yes L x hl hz.1 hz.2
  · exact fnExactEdgesOn_no L x hl hz

end Go.Proofs.YtjbbbkfdcegfmaaGreat
