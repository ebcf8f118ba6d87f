/- Walks: FnExactCrossPairs, walked. -/
import Derived.Test.YtaibemhdfhchfaaGreatG16

namespace Go.Proofs.YtaibemhdfhchfaaGreat
open Go Go.RowKit
set_option linter.unusedSimpArgs false
set_option linter.unusedVariables false
set_option maxRecDepth 100000
attribute [local simp] szT2 byT2 agT2 unT2 zoT2 szT3 byT3 agT3 unT3 zoT3 szT24 byT24 agT24 elT24 unT24 zoT24 szT38 byT38 agT38 flT38 fdT38_0 fdT38_1 zoT38 szT40 byT40 agT40 flT40 fdT40_0 fdT40_1 zoT40 szT91 byT91 agT91 elT91 unT91 zoT91 szT178 byT178 agT178 flT178 fdT178_0 fdT178_1 zoT178 szT180 byT180 agT180 flT180 fdT180_0 fdT180_1 zoT180

theorem sgrow_len (r : List Sg) : ∀ row ∈ r.map Sg.cells,row.length = 4:=by intro row h; obtain ⟨p,_,rfl⟩:=List.mem_map.1 h; rfl
set_option maxHeartbeats 1000000 in
theorem toSegS_own (l : List Sg) (hl : l.length ≤ 1048576) (nx : Nat) : ACall Tryz.prog 59 [.isl (l.map Sg.cells)] (fun _=>none) nx (own1 nx 4 (l.map Sg.cells) (fun id=>.osl id 0 l.length)):=by
 refine .b Tryz.func59 23 fun K hK=>?_
 refine .q ?_
 refine .q ?_ (by simp (disch:=first|omega|(simp only[ln];omega)) [if_pos,List.length_map]; rfl)
 refine .sq fun K3 hK3=>?_
 refine .q ?_
 refine .block ?_
 refine .loop (fun N s=>∃ i id : Nat,N = l.length - i ∧ i ≤ l.length ∧ s.env 0 = .isl (l.map Sg.cells) ∧ s.env 3 = .osl id 0 l.length ∧ s.env 4 = .int .i64 (i : Int) ∧ s.heap id = some (4,fillR Sg.cells [.int .i64 0,.int .i64 0,.int .i64 0,.int .i64 0] l i) ∧ nx ≤ id ∧ id < s.nx ∧ s.nt = 23) (l.length) (⟨0,nx,by omega,by omega,by simp,by simp,by simp,by simp [← fillR_zero],by omega,by simp,rfl⟩) ?_
 rintro N ⟨e,H,mm,nt⟩ ⟨i,id,rfl,hi,h0,h3,h4,hH,hx1,hx2,rfl⟩
 simp only [] at h0 h3 h4 hH hx1 hx2
 refine .sq fun K5 hK5=>?_
 refine .q ?_ (by simp (disch:=first|omega|(simp only[ln];omega)) [h0,h4,List.length_map]; rfl)
 refine .c (fun h11=>?_) (fun h11=>?_)
 ·try simp only[dc]at h11
  have hi' : i < l.length:=by omega
  obtain ⟨p,hpi⟩ : ∃ p,l[i]? = some p:=⟨l[i],by simp [hi']⟩
  have hpm : (l.map Sg.cells)[i]? = some p.cells:=by rw [List.getElem?_map,hpi]; rfl
  have fst:=fillR_set Sg.cells [.int .i64 0,.int .i64 0,.int .i64 0,.int .i64 0] l hpi
  simp only [Sg.cells] at fst
  have fl:=fillR_len Sg.cells [.int .i64 0,.int .i64 0,.int .i64 0,.int .i64 0] l hi
  have fg:=fillR_getE Sg.cells [.int .i64 0,.int .i64 0,.int .i64 0,.int .i64 0] l hi'
  refine .skip ?_
  refine hK5 _ ?_
  refine .sq fun K7 hK7=>?_
  refine .block ?_
  refine .region ?_
  refine .kf 6 (toSeg_fc p) hb149 ?_ (by simp (disch:=first|omega|(simp only[ln];omega)) [List.take_succ_cons,List.take_zero,if_pos,h0,h3,h4,hH,fl,fg,hpm,Sp.cells,Sg.cells,Sp.av,Sg.av,List.length_map]; rfl) (ha:=by simp (disch:=first|omega|(simp only[ln];omega)) [idf_Wd',if_pos,h0,h3,h4,hH,fl,fg,hpm,Sp.cells,Sg.cells,Sp.av,Sg.av,List.length_map])
  refine .e ?_ (by simp (disch:=first|omega|(simp only[ln];omega)) [if_pos,h0,h3,h4,hH,fl,fg,hpm,Sp.cells,Sg.cells,Sp.av,Sg.av,List.length_map]; rfl)
  refine hK7 _ ?_
  refine .r ?_ (by simp (disch:=first|omega|(simp only[ln];omega)) [h4]; rfl)
  refine ⟨l.length - (i + 1),by omega,i + 1,id,rfl,by omega,by simp [h0],by simp [h3],by simp (disch:=omega) [h4],by simp [fst],hx1,by first | omega | (simp; done) | (simp; omega),rfl⟩
 ·try simp only[dc]at h11
  have hin : i = l.length:=by omega
  rw [hin,fillR_all] at hH
  refine .exit ?_
  refine hK3 _ ?_
  refine .q ?_ (by simp (disch:=first|omega|(simp only[ln];omega)) [h3]; rfl)
  refine .ret ?_
  exact hK _ _ _ _ _ trivial (Fin.own1 (Fin.mk (by simp (disch:=omega) [aRes,aResL,aRes1]; try rfl)) (id:=id) (by simp [hH])) (⟨id,by first | omega | (simp; done) | (simp; omega),by first | omega | (simp; done) | (simp; omega),rfl,rfl⟩)
section
attribute [local simp] Sp.av Sp.cells Sg.av Sg.cells
set_option maxHeartbeats 1000000 in
theorem markSegS_ac (n id : Nat) (es : List (List AV)) (k : Int) (HP : Heap) (nx : Nat) (hH : HP id = some (4,es)) (hn : es.length = n) (hw : ∀ row ∈ es,row.length = 4) (hk0 : 0 ≤ k) (hk1 : k ≤ 1000000000) (hn1 : n ≤ 1099511627776) : ACall Tryz.prog 54 [.osl id 0 n,.int .i64 k] HP nx (fun r H' nx'=>r = .int .i64 (k + 4 * (n : Int)) ∧ H' = hupd HP id (some (4,mkR (m4 k) n)) ∧ nx' = nx):=by
 refine .b Tryz.func54 45 fun K hK=>?_
 refine .q ?_
 refine .sq fun K2 hK2=>?_
 refine .q ?_
 refine .block ?_
 
 refine .loop (fun N s=>∃ i : Nat,N = n - i ∧ i ≤ n ∧ (s.heap = hupd HP id (some (4,cmR (m4 k) es i))) ∧ (s.nx = nx) ∧ s.env 0 = .osl id 0 n ∧ s.env 1 = .int .i64 (k + 4 * (i : Int)) ∧ s.env 5 = .int .i64 (i : Int) ∧ s.nt = 45) (n) (by refine ⟨0,by omega,by omega,by rw [cmR_zero]; exact (hupd_id hH).symm,rfl,?_,?_,?_,rfl⟩ <;> first|(simp (disch:=omega);done)|omega|(simp;done)|(simp;omega)|(simp (disch:=omega) <;> omega)) ?_
 rintro N ⟨e,H,mm,nt⟩ ⟨i,rfl,hi,rfl,rfl,g0,g1,g5,rfl⟩
 simp only [] at g0 g1 g5
 refine .sq fun K4 hK4=>?_
 refine .q ?_ (by simp (disch:=first|omega|(simp only[ln];omega)) [g0,g5]; rfl)
 refine .c (fun h9=>?_) (fun h9=>?_)
 ·try simp only[dc]at h9
  have hi' : i < n:=by omega
  obtain ⟨row,hrow⟩ : ∃ row,es[i]? = some row:=⟨es[i],by simp⟩
  have hrl:=hw row (List.mem_of_getElem? hrow)
  obtain ⟨r0,r1,r2,r3,rfl⟩ : ∃ r0 r1 r2 r3,row = [r0,r1,r2,r3]:=by
    match row,hrl with
    | [a,b,c,d],_=>exact ⟨a,b,c,d,rfl⟩
  have hget : (cmR (m4 k) es i)[i]? = some [r0,r1,r2,r3]:=by rw [cmR_get]; exact hrow
  have hcl : (cmR (m4 k) es i).length = n:=by rw [cmR_len _ _ (by omega)]; exact hn
  have hset : (cmR (m4 k) es i).set i [.int .i64 (k + 4 * (i : Int)),.int .i64 (k + 4 * (i : Int) + 1),.int .i64 (k + 4 * (i : Int) + 1 + 1),.int .i64 (k + 4 * (i : Int) + 1 + 1 + 1)] = cmR (m4 k) es (i + 1):=cmR_set (m4 k) es (i:=i) (by omega)
  generalize cmR (m4 k) es i = C at *
  have hgE : ∀ h : i < C.length,C[i] = [r0,r1,r2,r3]:=fun h=>by rw [List.getElem?_eq_getElem h] at hget; simpa using hget
  refine .skip ?_
  refine hK4 _ ?_
  refine .sq fun K6 hK6=>?_
  refine .block ?_
  refine .q ?_ (by simp (disch:=first|omega|(simp only[ln];omega)) [if_pos,g0,g1,g5,hget,hcl,hgE]; rfl)
  refine .q ?_ (by simp (disch:=first|omega|(simp only[ln];omega)) [g1]; rfl)
  refine .q ?_ (by simp (disch:=first|omega|(simp only[ln];omega)) [if_pos,g0,g1,g5,hget,hcl,hgE]; rfl)
  refine .q ?_ (by simp (disch:=first|omega|(simp only[ln];omega)) [g1]; rfl)
  refine .q ?_ (by simp (disch:=first|omega|(simp only[ln];omega)) [if_pos,g0,g1,g5,hget,hcl,hgE]; rfl)
  refine .q ?_ (by simp (disch:=first|omega|(simp only[ln];omega)) [g1]; rfl)
  refine .q ?_ (by simp (disch:=first|omega|(simp only[ln];omega)) [if_pos,g0,g1,g5,hget,hcl,hgE]; rfl)
  refine .r ?_ (by simp (disch:=first|omega|(simp only[ln];omega)) [g1]; rfl)
  refine hK6 _ ?_
  refine .r ?_ (by simp (disch:=first|omega|(simp only[ln];omega)) [g5]; rfl)
  refine ⟨n - (i + 1),by omega,i + 1,rfl,by omega,by simp [hupd_same,List.set_set,hset],by simp,?_,?_,?_,rfl⟩ <;> first|(simp (disch:=omega) [g0,g1,g5];done)|omega|(simp;done)|(simp;omega)|(simp (disch:=omega) [g0,g1,g5] <;> omega)
 ·try simp only[dc]at h9
  have hin : i = n:=by omega
  subst hin
  subst hn
  refine .exit ?_
  refine hK2 _ ?_
  refine .q ?_ (by simp (disch:=first|omega|(simp only[ln];omega)) [g1]; rfl)
  refine .ret ?_
  exact hK _ _ _ _ _ trivial ((Fin.m)) (⟨rfl,by rw [cmR_end],rfl⟩)
end


end Go.Proofs.YtaibemhdfhchfaaGreat

/- Walks: FnOver, walked. -/
namespace Go.Proofs.YtaibemhdfhchfaaGreat
open Go Go.RowKit
set_option linter.unusedSimpArgs false
set_option linter.unusedVariables false
set_option maxRecDepth 100000
attribute [local simp] szT2 byT2 agT2 unT2 zoT2 szT4 byT4 agT4 unT4 zoT4 szT27 byT27 agT27 flT27 fdT27_0 fdT27_1 fdT27_2 fdT27_3 zoT27 szT29 byT29 agT29 flT29 fdT29_0 fdT29_1 fdT29_2 zoT29 szT38 byT38 agT38 flT38 fdT38_0 fdT38_1 zoT38 szT40 byT40 agT40 flT40 fdT40_0 fdT40_1 zoT40 szT108 byT108 agT108 elT108 unT108 zoT108 szT110 byT110 agT110 flT110 fdT110_0 fdT110_1 zoT110 szT112 byT112 agT112 flT112 fdT112_0 fdT112_1 fdT112_2 zoT112

section
attribute [local simp] idf_numS cells_numS numS_fold idf_numI cells_numI numI_fold Sp.av Sp.cells Sg.av Sg.cells Pt.av Pt.cells spA spC numC
set_option maxHeartbeats 4000000 in
theorem sideOfI_fc (s : Sg) (p : Pt) (gs : s.good = true) (hp : p.ok) : FC Tryz.prog 96 [s.av,p.av] (.int .i64 (sdF s p)):=by
 obtain ⟨ax0,ax1,ay0,ay1⟩:=Sp.b (good_a gs)
 obtain ⟨bx0,bx1,by0,by1⟩:=Sp.b (good_b gs)
 have pX:=W4.bg hp.1
 have pY:=W4.bg hp.2.1
 have pW:=W4.bg hp.2.2
 have aX : Bg 1 s.a.x:=Bg.i64 (by omega) (by omega)
 have aY : Bg 1 s.a.y:=Bg.i64 (by omega) (by omega)
 have bX : Bg 1 s.b.x:=Bg.i64 (by omega) (by omega)
 have bY : Bg 1 s.b.y:=Bg.i64 (by omega) (by omega)
 have dX' : Bg 1 (s.b.x - s.a.x):=Bg.i64 (by omega) (by omega)
 have dY' : Bg 1 (s.b.y - s.a.y):=Bg.i64 (by omega) (by omega)
 refine .b Tryz.func96 52 (fun nx K hK=>?_) (hi:=by simp [idfL,idf,Sp.av,Sp.cells,Sg.av,Sg.cells,Pt.av,Pt.cells])
 refine .q ?_
 refine .sq fun K2 hK2=>?_
 refine .region ?_
 refine .kf 1 (spot_fc p hp) hb77 ?_
 refine .e ?_
 refine hK2 _ ?_
 refine .sq fun K3 hK3=>?_
 refine .d 11 ?_
 refine .k 5 (fun fs4 hfs4=>?_)
 refine .f (whole_fc s.a.x (by omega) (by omega)) hb79 ?_
 refine .k 2 (fun fs5 hfs5=>?_)
 refine .f (by_fc aX pW (by omega) (by omega)) hb80 ?_
 refine .f (less_fc pX (aX.mul pW) (by omega) (by omega)) hb82 ?_
 refine .k 1 (fun fs6 hfs6=>?_)
 refine .r 11 (by simp only[ln,hfs4,hfs5,hfs6];omega) ?_
 refine hK3 _ ?_
 refine .sq fun K7 hK7=>?_
 refine .d 11 ?_
 refine .k 5 (fun fs8 hfs8=>?_)
 refine .f (whole_fc s.a.y (by omega) (by omega)) hb79 ?_
 refine .k 2 (fun fs9 hfs9=>?_)
 refine .f (by_fc aY pW (by omega) (by omega)) hb80 ?_
 refine .f (less_fc pY (aY.mul pW) (by omega) (by omega)) hb82 ?_
 refine .k 1 (fun fs10 hfs10=>?_)
 refine .r 11 (by simp only[ln,hfs8,hfs9,hfs10];omega) ?_
 refine hK7 _ ?_
 refine .sq fun K11 hK11=>?_
 have bQ:=pX.sub (aX.mul pW)
 have bR:=pY.sub (aY.mul pW)
 have hs : FC Tryz.prog 163 [numI ((s.b.x - s.a.x) * (p.y.v - s.a.y * p.w.v) - (s.b.y - s.a.y) * (p.x.v - s.a.x * p.w.v))] (.int .i64 (sdF s p)):=sign_fc (sdZ s p)
 refine .d 22 ?_
 refine .k 7 (fun fs12 hfs12=>?_)
 refine .f (whole_fc (s.b.x - s.a.x) (by omega) (by omega)) hb79 ?_
 refine .k 1 (fun fs13 hfs13=>?_)
 refine .f (by_fc dX' bR (by omega) (by omega)) hb80 ?_
 refine .k 7 (fun fs14 hfs14=>?_)
 refine .f (whole_fc (s.b.y - s.a.y) (by omega) (by omega)) hb79 ?_
 refine .k 1 (fun fs15 hfs15=>?_)
 refine .f (by_fc dY' bQ (by omega) (by omega)) hb80 ?_
 refine .f (less_fc (dX'.mul bR) (dY'.mul bQ) (by omega) (by omega)) hb82 ?_
 refine .f hs hb163 ?_
 refine .r 22 (by simp only[ln,hfs12,hfs13,hfs14,hfs15];omega) ?_
 refine hK11 _ ?_
 refine .ret ?_
 exact hK _ _ _ _ trivial (Fin.m)
end
section
attribute [local simp] idf_numS cells_numS numS_fold idf_numI cells_numI numI_fold Sp.av Sp.cells Sg.av Sg.cells Pt.av Pt.cells
set_option maxHeartbeats 4000000 in
theorem onSegI_fc (s : Sg) (p : Pt) (gs : s.good = true) (hp : p.ok) : FC Tryz.prog 138 [s.av,p.av] (.bool (onF s p)):=by
 have c1:=cmpPoints_fc (ptS s.a) p (pt3_ok _ _ _) hp
 have c2:=cmpPoints_fc p (ptS s.b) hp (pt3_ok _ _ _)
 have o1:=pointOfI_fc s.a (good_a gs)
 have o2:=pointOfI_fc s.b (good_b gs)
 refine .b Tryz.func138 25 (fun nx K hK=>?_) (hi:=by simp [idfL,idf,Sp.av,Sp.cells,Sg.av,Sg.cells,Pt.av,Pt.cells])
 refine .q ?_
 refine .sq fun K2 hK2=>?_
 cases k1 : decide (cmV (ptS s.a) p ≤ 0)
 ·refine .d 20 ?_
  refine .k 2 (fun fs3 hfs3=>?_) (by simp (disch:=first|omega|(simp only[ln];omega)) [runDf.eq_def,runF1,runF2,stepF.eq_def,updo.eq_def,hupo.eq_def,opSto1.eq_def,List.take_succ_cons,List.take_zero,k1]; rfl)
  refine .f o1 hb46 ?_ (ha:=by simp (disch:=first|omega|(simp only[ln];omega)) [idf_Wd',k1])
  refine .k 1 (fun fs4 hfs4=>?_) (by simp (disch:=first|omega|(simp only[ln];omega)) [runDf.eq_def,runF1,runF2,stepF.eq_def,updo.eq_def,hupo.eq_def,opSto1.eq_def,List.take_succ_cons,List.take_zero,k1]; rfl)
  refine .f c1 hb123 ?_ (ha:=by simp (disch:=first|omega|(simp only[ln];omega)) [idf_Wd',k1])
  refine .k 15 (fun fs5 hfs5=>?_) (by simp (disch:=first|omega|(simp only[ln];omega)) [runDf.eq_def,runF1,runF2,stepF.eq_def,updo.eq_def,hupo.eq_def,opSto1.eq_def,List.take_succ_cons,List.take_zero,k1]; rfl)
  refine .r 20 (by simp only[ln,hfs3,hfs4,hfs5];omega) ?_ (by simp (disch:=first|omega|(simp only[ln];omega)) [runDf.eq_def,runF1,runF2,stepF.eq_def,updo.eq_def,hupo.eq_def,opSto1.eq_def,k1]; rfl)
  refine hK2 _ ?_
  refine .ret ?_
  exact hK _ _ _ _ trivial ((Fin.m).cast (by unfold onF; rw [k1]; rfl))
 ·cases k2 : decide (cmV p (ptS s.b) ≤ 0)
  ·refine .d 20 ?_
   refine .k 2 (fun fs6 hfs6=>?_) (by simp (disch:=first|omega|(simp only[ln];omega)) [runDf.eq_def,runF1,runF2,stepF.eq_def,updo.eq_def,hupo.eq_def,opSto1.eq_def,List.take_succ_cons,List.take_zero,k1,k2]; rfl)
   refine .f o1 hb46 ?_ (ha:=by simp (disch:=first|omega|(simp only[ln];omega)) [idf_Wd',k1,k2])
   refine .k 1 (fun fs7 hfs7=>?_) (by simp (disch:=first|omega|(simp only[ln];omega)) [runDf.eq_def,runF1,runF2,stepF.eq_def,updo.eq_def,hupo.eq_def,opSto1.eq_def,List.take_succ_cons,List.take_zero,k1,k2]; rfl)
   refine .f c1 hb123 ?_ (ha:=by simp (disch:=first|omega|(simp only[ln];omega)) [idf_Wd',k1,k2])
   refine .k 5 (fun fs8 hfs8=>?_) (by simp (disch:=first|omega|(simp only[ln];omega)) [runDf.eq_def,runF1,runF2,stepF.eq_def,updo.eq_def,hupo.eq_def,opSto1.eq_def,List.take_succ_cons,List.take_zero,k1,k2]; rfl)
   refine .f o2 hb46 ?_ (ha:=by simp (disch:=first|omega|(simp only[ln];omega)) [idf_Wd',k1,k2])
   refine .f c2 hb123 ?_ (ha:=by simp (disch:=first|omega|(simp only[ln];omega)) [idf_Wd',k1,k2])
   refine .k 8 (fun fs9 hfs9=>?_) (by simp (disch:=first|omega|(simp only[ln];omega)) [runDf.eq_def,runF1,runF2,stepF.eq_def,updo.eq_def,hupo.eq_def,opSto1.eq_def,List.take_succ_cons,List.take_zero,k1,k2]; rfl)
   refine .r 20 (by simp only[ln,hfs6,hfs7,hfs8,hfs9];omega) ?_ (by simp (disch:=first|omega|(simp only[ln];omega)) [runDf.eq_def,runF1,runF2,stepF.eq_def,updo.eq_def,hupo.eq_def,opSto1.eq_def,k1,k2]; rfl)
   refine hK2 _ ?_
   refine .ret ?_
   exact hK _ _ _ _ trivial ((Fin.m).cast (by unfold onF; rw [k1,k2]; rfl))
  ·refine .d 20 ?_
   refine .k 2 (fun fs10 hfs10=>?_) (by simp (disch:=first|omega|(simp only[ln];omega)) [runDf.eq_def,runF1,runF2,stepF.eq_def,updo.eq_def,hupo.eq_def,opSto1.eq_def,List.take_succ_cons,List.take_zero,k1,k2]; rfl)
   refine .f o1 hb46 ?_ (ha:=by simp (disch:=first|omega|(simp only[ln];omega)) [idf_Wd',k1,k2])
   refine .k 1 (fun fs11 hfs11=>?_) (by simp (disch:=first|omega|(simp only[ln];omega)) [runDf.eq_def,runF1,runF2,stepF.eq_def,updo.eq_def,hupo.eq_def,opSto1.eq_def,List.take_succ_cons,List.take_zero,k1,k2]; rfl)
   refine .f c1 hb123 ?_ (ha:=by simp (disch:=first|omega|(simp only[ln];omega)) [idf_Wd',k1,k2])
   refine .k 5 (fun fs12 hfs12=>?_) (by simp (disch:=first|omega|(simp only[ln];omega)) [runDf.eq_def,runF1,runF2,stepF.eq_def,updo.eq_def,hupo.eq_def,opSto1.eq_def,List.take_succ_cons,List.take_zero,k1,k2]; rfl)
   refine .f o2 hb46 ?_ (ha:=by simp (disch:=first|omega|(simp only[ln];omega)) [idf_Wd',k1,k2])
   refine .f c2 hb123 ?_ (ha:=by simp (disch:=first|omega|(simp only[ln];omega)) [idf_Wd',k1,k2])
   refine .k 5 (fun fs13 hfs13=>?_) (by simp (disch:=first|omega|(simp only[ln];omega)) [runDf.eq_def,runF1,runF2,stepF.eq_def,updo.eq_def,hupo.eq_def,opSto1.eq_def,List.take_succ_cons,List.take_zero,k1,k2]; rfl)
   refine .f (sideOfI_fc s p gs hp) hb96 ?_ (ha:=by simp (disch:=first|omega|(simp only[ln];omega)) [idf_Wd',k1,k2])
   refine .k 2 (fun fs14 hfs14=>?_) (by simp (disch:=first|omega|(simp only[ln];omega)) [runDf.eq_def,runF1,runF2,stepF.eq_def,updo.eq_def,hupo.eq_def,opSto1.eq_def,List.take_succ_cons,List.take_zero,k1,k2]; rfl)
   refine .r 20 (by simp only[ln,hfs10,hfs11,hfs12,hfs13,hfs14];omega) ?_ (by simp (disch:=first|omega|(simp only[ln];omega)) [runDf.eq_def,runF1,runF2,stepF.eq_def,updo.eq_def,hupo.eq_def,opSto1.eq_def,k1,k2]; rfl)
   refine hK2 _ ?_
   refine .ret ?_
   exact hK _ _ _ _ trivial ((Fin.mk (r:=.bool (sdF s p == 0)) (by simp [aRes,aResL,aRes1]; try rfl)).cast (by unfold onF; rw [k1,k2]; rfl))
end
section
attribute [local simp] idf_numS cells_numS numS_fold idf_numI cells_numI numI_fold Sp.av Sp.cells Sg.av Sg.cells Pt.av Pt.cells spA spC numC
end

end Go.Proofs.YtaibemhdfhchfaaGreat

/- Walks: on which side of a ring a point is; FnExactRingIn, walked. -/
namespace Go.Proofs.YtaibemhdfhchfaaGreat
open Go Go.RowKit
set_option linter.unusedSimpArgs false
set_option linter.unusedVariables false
set_option maxRecDepth 100000
attribute [local simp] szT2 byT2 agT2 unT2 zoT2 szT3 byT3 agT3 unT3 zoT3 szT27 byT27 agT27 flT27 fdT27_0 fdT27_1 fdT27_2 fdT27_3 zoT27 szT29 byT29 agT29 flT29 fdT29_0 fdT29_1 fdT29_2 zoT29 szT38 byT38 agT38 flT38 fdT38_0 fdT38_1 zoT38 szT40 byT40 agT40 flT40 fdT40_0 fdT40_1 zoT40 szT41 byT41 agT41 elT41 unT41 zoT41 szT43 byT43 agT43 flT43 fdT43_0 zoT43 szT127 byT127 agT127 flT127 fdT127_0 fdT127_1 zoT127 szT129 byT129 agT129 flT129 fdT129_0 fdT129_1 fdT129_2 zoT129

section
attribute [local simp] Sp.av Sp.cells Sg.av Sg.cells Pt.av Pt.cells
end
section
attribute [local simp] idf_numS cells_numS numS_fold idf_numI cells_numI numI_fold Sp.av Sp.cells Sg.av Sg.cells Pt.av Pt.cells l3A l3C
set_option maxHeartbeats 1000000 in
theorem l4On_fc (a b : Sp) (ga : a.good = true) (gb : b.good = true) (p : Pt) (hp : p.ok) : FC Tryz.prog 199 [.agg [.int .i64 a.x,.int .i64 a.y,.int .i64 b.x,.int .i64 b.y],l3A p.x.v p.y.v p.w.v] (.bool (btS (ptS a) (ptS b) p)):=by
 obtain ⟨a1,a2,a3⟩:=ptS_v ga
 obtain ⟨b1,b2,b3⟩:=ptS_v gb
 have ba:=Sp.b ga
 have bb:=Sp.b gb
 have sa:=l3Spot_fc a.x a.y (by omega) (by omega) (by omega) (by omega)
 have sb:=l3Spot_fc b.x b.y (by omega) (by omega) (by omega) (by omega)
 have k:=l3Between_fc (ptS a) (ptS b) p (pt3_ok _ _ _) (pt3_ok _ _ _) hp
 rw [a1,a2,a3,b1,b2,b3] at k
 refine .b Tryz.func199 13 (fun nx K hK=>?_) (hi:=by simp [idfL,idf,l3A,l3C,idf_Wd'])
 refine .q ?_
 refine .sq fun K2 hK2=>?_
 refine .d 8 ?_
 refine .k 2 (fun fs3 hfs3=>?_)
 refine .f sa hb93 ?_
 refine .k 2 (fun fs4 hfs4=>?_)
 refine .f sb hb93 ?_
 refine .k 1 (fun fs5 hfs5=>?_)
 refine .f k hb254 ?_
 refine .r 8 (by simp only[ln,hfs3,hfs4,hfs5];omega) ?_
 refine hK2 _ ?_
 refine .ret ?_
 exact hK _ _ _ _ trivial (Fin.m)
end

end Go.Proofs.YtaibemhdfhchfaaGreat

/- Walks: rows of segments in order. -/
namespace Go.Proofs.YtaibemhdfhchfaaGreat
open Go Go.RowKit
set_option linter.unusedSimpArgs false
set_option linter.unusedVariables false
set_option maxRecDepth 100000
attribute [local simp] szT3 byT3 agT3 unT3 zoT3 szT24 byT24 agT24 elT24 unT24 zoT24 szT38 byT38 agT38 flT38 fdT38_0 fdT38_1 zoT38 szT40 byT40 agT40 flT40 fdT40_0 fdT40_1 zoT40 szT204 byT204 agT204 unT204 zoT204 szT313 byT313 agT313 unT313 zoT313

theorem bitsLen_fc (x : Nat) (hx : x < 18446744073709551616) : FC Tryz.prog 209 [.int .u64 (x : Int)] (.int .i64 (bitLen x : Int)):=by
 refine .b Tryz.func209 8 (fun nx K hK=>?_)
 refine .q ?_
 refine .sq fun K2 hK2=>?_
 refine .c (t:=false) (fun h0=>?_) (fun h0=>?_)
 ·simp at h0
 ·
  refine .skip ?_
  refine hK2 _ ?_
  refine .sq fun K3 hK3=>?_
  refine .region ?_
  refine .kf 1 (len64_fc x hx) hb267 ?_
  refine .e ?_
  refine hK3 _ ?_
  refine .ret ?_
  exact hK _ _ _ _ trivial (Fin.m)
theorem nextPow_fc (l m : Nat) (h0 : 0 < l) (hl : l ≤ 1099511627776) (hm : m = 1 <<< Sort.bitsLen l) : FC Tryz.prog 292 [.int .i64 (l : Int)] (.int .u64 (m : Int)):=by
 obtain ⟨q1,q2,q3⟩:=pow_bits h0 hl
 have e1 : min (Sort.bitsLen l) 64 = Sort.bitsLen l:=Nat.min_eq_left (by omega)
 rw [← hm] at q1 q2
 have e2 : (2 : Int) ^ Sort.bitsLen l = (m : Int):=by rw [hm,Nat.one_shiftLeft,Int.natCast_pow]; rfl
 refine .b Tryz.func292 7 (fun nx K hK=>?_)
 refine .q ?_
 refine .sq fun K2 hK2=>?_
 refine .region ?_
 refine .kf 2 (bitsLen_fc l (by omega)) hb209 ?_ (by simp (disch:=first|omega|(simp only[ln];omega)) [List.take_succ_cons,List.take_zero,bitLen_bits,e1,e2,IntKind.bits]; rfl) (ha:=by simp (disch:=first|omega|(simp only[ln];omega)) [idf_Wd',bitLen_bits,e1,e2,IntKind.bits])
 refine .e ?_ (by simp (disch:=first|omega|(simp only[ln];omega)) [bitLen_bits,e1,e2,IntKind.bits]; rfl)
 refine hK2 _ ?_
 refine .ret ?_
 exact hK _ _ _ _ trivial (Fin.m)
section
attribute [local simp] runDf.eq_def runF1 runF2 stepF.eq_def updo.eq_def hupo.eq_def opSto1.eq_def runQ runT qOk.eq_def qnone asksB.eq_def topId.eq_def Op.operands List.take_succ_cons List.take_zero List.drop_succ_cons List.drop_zero
set_option maxHeartbeats 4000000 in
theorem xnext_ac (r : UInt64) (sid : Nat) (HP : Heap) (nx : Nat) (hS : HP sid = some (1,wd .u64 [(r.toNat : Int)])) (hsid : sid < nx) : ACall Tryz.prog 293 [.ptr sid 0 0] HP nx (fun v H' nx'=>v = .int .u64 ((Sort.xorNext r).toNat : Int) ∧ H' = hupd HP sid (some (1,wd .u64 [((Sort.xorNext r).toNat : Int)])) ∧ nx ≤ nx'):=by
 refine .b Tryz.func293 33 fun K hK=>?_
 refine .q ?_
 refine .sq fun K2 hK2=>?_
 refine .df 9 ?_ (by simp (disch:=first|omega|(simp only[ln];omega)) [hS,hsid]; rfl)
 refine hK2 _ ?_
 refine .sq fun K3 hK3=>?_
 refine .df 9 ?_ (by simp (disch:=first|omega|(simp only[ln];omega)) [hS,hsid]; rfl)
 refine hK3 _ ?_
 refine .sq fun K4 hK4=>?_
 refine .df 9 ?_ (by simp (disch:=first|omega|(simp only[ln];omega)) [hS,hsid]; rfl)
 refine hK4 _ ?_
 refine .q ?_ (by simp (disch:=first|omega|(simp only[ln];omega)) [hS]; rfl)
 refine .ret ?_
 exact hK _ _ _ _ _ trivial (Fin.m) (⟨by simp only [gt_one,xs_13,xs_7,xs_17,xs_xor]; rfl,by simp only [hupd_same,gt_one,xs_13,xs_7,xs_17,xs_xor]; rfl,by simp; omega⟩)
end
section
attribute [local simp] runDf.eq_def runF1 runF2 stepF.eq_def updo.eq_def hupo.eq_def opSto1.eq_def runQ runT qOk.eq_def qnone asksB.eq_def topId.eq_def Op.operands List.take_succ_cons List.take_zero List.drop_succ_cons List.drop_zero Sg.cells
end

end Go.Proofs.YtaibemhdfhchfaaGreat

/- Walks: drawn segments and points; rows of numbers compared. -/
namespace Go.Proofs.YtaibemhdfhchfaaGreat
open Go Go.RowKit
set_option linter.unusedSimpArgs false
set_option linter.unusedVariables false
set_option maxRecDepth 100000
attribute [local simp] szT2 byT2 agT2 unT2 zoT2 szT3 byT3 agT3 unT3 zoT3 szT27 byT27 agT27 flT27 fdT27_0 fdT27_1 fdT27_2 fdT27_3 zoT27 szT29 byT29 agT29 flT29 fdT29_0 fdT29_1 fdT29_2 zoT29 szT32 byT32 agT32 elT32 unT32 zoT32

theorem wd_at {l : List Int} {i : Nat} (h : i < l.length) : (wd .i64 l)[i]? = some [.int .i64 (gt l i)]:=by
  unfold wd gt; rw [List.getElem?_map,List.getElem?_eq_getElem h]; simp

section
attribute [local simp] Sp.av Sp.cells Sg.av Sg.cells
end

end Go.Proofs.YtaibemhdfhchfaaGreat
