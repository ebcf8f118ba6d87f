/- Walks: slices.SortFunc of points. -/
import Derived.Test.YtaibemhdfhchfaaGreatG18

namespace Go.Proofs.YtaibemhdfhchfaaGreat
open Go Go.RowKit
set_option linter.unusedSimpArgs false
set_option linter.unusedVariables false
set_option maxRecDepth 100000
attribute [local simp] szT3 byT3 agT3 unT3 zoT3 szT27 byT27 agT27 flT27 fdT27_0 fdT27_1 fdT27_2 fdT27_3 zoT27 szT29 byT29 agT29 flT29 fdT29_0 fdT29_1 fdT29_2 zoT29 szT188 byT188 agT188 elT188 unT188 zoT188 szT204 byT204 agT204 unT204 zoT204 szT292 byT292 agT292 unT292 zoT292

section
attribute [local simp] runDf.eq_def runF1 runF2 stepF.eq_def updo.eq_def hupo.eq_def opSto1.eq_def runQ runT qOk.eq_def qnone asksB.eq_def topId.eq_def Op.operands List.take_succ_cons List.take_zero List.drop_succ_cons List.drop_zero Pt.cells
set_option maxHeartbeats 4000000 in
theorem pdqSPt_ac {α : Type} [Inhabited α] (P : α → Pt) (cv : α → α → Int) (f : Nat) (caps : List AV) (hc : CmpF Tryz.prog f caps (fun x=>.agg (Pt.cells (P x))) cv) (d : Array α) (n id : Nat) (HP : Heap) (nx : Nat) (hn : d.size = n) (hH : HP id = some (12,rwA (fun x=>(Pt.cells (P x))) d)) (hid : id < nx) (hl : n ≤ 1099511627776) (a b limit : Nat) (hab : a ≤ b) (hb : b ≤ n) (hlim : limit ≤ 64) (hswo : Sort.SWO (ltc cv)) (IH : ∀ (e : Array α) (HP' : Heap) (nx' lo hi lim : Nat),e.size = n → HP' id = some (12,rwA (fun x=>(Pt.cells (P x))) e) → id < nx' → lo ≤ hi → hi ≤ n → hi - lo < b - a → lim ≤ 64 → ACall Tryz.prog 255 [.osl id 0 n,.int .i64 (lo : Int),.int .i64 (hi : Int),.int .i64 (lim : Int),.fn f caps] HP' nx' (fun r H' nx''=>r = .tup [] ∧ H' = hupd HP' id (some (12,rwA (fun x=>(Pt.cells (P x))) (Sort.pdq (ltc cv) e lo hi lim true true))) ∧ nx' ≤ nx'' ∧ (Sort.pdq (ltc cv) e lo hi lim true true).size = n)) : ACall Tryz.prog 255 [.osl id 0 n,.int .i64 (a : Int),.int .i64 (b : Int),.int .i64 (limit : Int),.fn f caps] HP nx (fun r H' nx'=>r = .tup [] ∧ H' = hupd HP id (some (12,rwA (fun x=>(Pt.cells (P x))) (Sort.pdq (ltc cv) d a b limit true true))) ∧ nx ≤ nx' ∧ (Sort.pdq (ltc cv) d a b limit true true).size = n):=by
 have ZI : ∀ e : Array α,e.size = n → ∀ p q,p ≤ q → q ≤ n → (Sort.insertionSort (ltc cv) e p q).size = n:=fun e h p q h1 h2=>by rw [(Sort.insertionSort_holds hswo e p q h1 (by rw [h]; exact h2)).1.1,h]
 have ZH : ∀ e : Array α,e.size = n → ∀ p q,p ≤ q → q ≤ n → (Sort.heapSort (ltc cv) e p q).size = n:=fun e h p q h1 h2=>by rw [(Sort.heapSort_holds hswo e p q h1 (by rw [h]; exact h2)).1.1,h]
 refine .b Tryz.func255 148 fun K hK=>?_
 refine .q ?_
 refine .q ?_
 refine .block ?_
 refine .loop (fun N st=>∃ (p q lim : Nat) (wb wp : Bool) (e : Array α) (D : List (List AV)),(N = q - p) ∧ (p ≤ q) ∧ (q ≤ n) ∧ (q - p ≤ b - a) ∧ (lim ≤ 64) ∧ (e.size = n) ∧ (Sort.pdq (ltc cv) e p q lim wb wp = Sort.pdq (ltc cv) d a b limit true true) ∧ (D = rwA (fun x=>(Pt.cells (P x))) e) ∧ (st.heap = hupd HP id (some (12,D))) ∧ (nx ≤ st.nx) ∧ st.env 0 = .osl id 0 n ∧ st.env 1 = .int .i64 (p : Int) ∧ st.env 2 = .int .i64 (q : Int) ∧ st.env 3 = .int .i64 (lim : Int) ∧ st.env 4 = .fn f caps ∧ st.env 10 = .bool wb ∧ st.env 11 = .bool wp ∧ st.nt = 148) (b - a) (by refine ⟨a,b,limit,true,true,d,_,rfl,hab,hb,Nat.le_refl _,hlim,hn,rfl,rfl,(hupd_id hH).symm,by simp,?_,?_,?_,?_,?_,?_,?_,rfl⟩ <;> first|(simp (disch:=omega);done)|omega|(simp;done)|(simp;omega)) ?_
 rintro N ⟨e0,H,mm,nt⟩ ⟨p,q,lim,wb,wp,e,D,rfl,hpq,hqn,hs,hlm,he,hE,hD,rfl,hnx,g0,g1,g2,g3,g4,g10,g11,rfl⟩
 simp only [] at g0 g1 g2 g3 g4 g10 g11 hnx
 obtain ⟨len,hlen⟩ : ∃ x,x = q - p:=⟨_,rfl⟩
 have el : (q : Int) - (p : Int) = (len : Int):=by omega
 refine .block ?_
 refine .q ?_ (by simp (disch:=first|omega|(simp only[ln];omega)) [el,g0,g1,g2,g3,g4,g10,g11]; rfl)
 refine .sq fun K4 hK4=>?_
 refine .q ?_
 refine .c (t:=decide ((len : Int) ≤ 12)) (fun h25=>?_) (fun h25=>?_)
 ·try simp only[dc]at h25
  rw [pdq_ins _ (by omega)] at hE
  refine .sq fun K6 hK6=>?_
  refine .region ?_
  refine .k 4 ?_ (by simp (disch:=first|omega|(simp only[ln];omega)) [List.take_succ_cons,List.take_zero,g0,g1,g2,g3,g4,g10,g11]; rfl)
  refine .a (insPt_ac P cv f caps hc e n id _ _ he (by simp [hD]) (by first|omega|(simp;done)|(simp;omega)) hl p q (by omega) (by omega)) hb282 ?_ (ha:=by simp (disch:=first|omega|(simp only[ln];omega)) [idf_Wd',g0,g1,g2,g3,g4,g10,g11])
  rintro _ _ nx3 ⟨rfl,rfl,hn3⟩
  simp only [] at hn3
  refine .nil ?_
  refine hK6 _ ?_
  refine .ret ?_
  exact hK _ _ _ _ _ trivial (Fin.m) (⟨rfl,by rw [← hE]; simp only [hupd_same],by simp; omega,by rw [← hE]; exact ZI e he p q hpq hqn⟩)
 ·try simp only[dc]at h25
  have h12 : ¬ q - p ≤ 12:=by omega
  refine .skip ?_
  refine hK4 _ ?_
  refine .sq fun K7 hK7=>?_
  refine .q ?_ (by simp (disch:=first|omega|(simp only[ln];omega)) [g0,g1,g2,g3,g4,g10,g11]; rfl)
  refine .c (t:=(lim : Int) == 0) (fun h32=>?_) (fun h32=>?_)
  ·
   have h0 : lim = 0:=by simpa using h32
   subst h0
   rw [pdq_heap _ h12] at hE
   refine .sq fun K9 hK9=>?_
   refine .region ?_
   refine .k 4 ?_ (by simp (disch:=first|omega|(simp only[ln];omega)) [List.take_succ_cons,List.take_zero,g0,g1,g2,g3,g4,g10,g11]; rfl)
   refine .a (heapPt_ac P cv f caps hc e n id _ _ he (by simp [hD]) (by first|omega|(simp;done)|(simp;omega)) hl p q (by omega) (by omega)) hb283 ?_ (ha:=by simp (disch:=first|omega|(simp only[ln];omega)) [idf_Wd',g0,g1,g2,g3,g4,g10,g11])
   rintro _ _ nx3 ⟨rfl,rfl,hn3⟩
   simp only [] at hn3
   refine .nil ?_
   refine hK9 _ ?_
   refine .ret ?_
   exact hK _ _ _ _ _ trivial (Fin.m) (⟨rfl,by rw [← hE]; simp only [hupd_same],by simp; omega,by rw [← hE]; exact ZH e he p q hpq hqn⟩)
  ·
   have h0 : ¬ lim = 0:=by simpa using h32
   rw [pdq_rest _ h12 h0] at hE
   refine .skip ?_
   refine hK7 _ ?_
   refine .sq fun K10 hK10=>?_
   have J10 : ∀ s : St,(∃ (e1 : Array α) (D1 : List (List AV)),∃ (lim : Nat),(e1.size = n) ∧ (lim ≤ 64) ∧ (pdqB (ltc cv) e1 p q lim wb wp = Sort.pdq (ltc cv) d a b limit true true) ∧ (D1 = rwA (fun x=>(Pt.cells (P x))) e1) ∧ (s.heap = hupd HP id (some (12,D1))) ∧ (nx ≤ s.nx) ∧ s.env 0 = .osl id 0 n ∧ s.env 1 = .int .i64 (p : Int) ∧ s.env 2 = .int .i64 (q : Int) ∧ s.env 3 = .int .i64 (lim : Int) ∧ s.env 4 = .fn f caps ∧ s.env 10 = .bool wb ∧ s.env 11 = .bool wp ∧ s.env 12 = .int .i64 (len : Int) ∧ s.nt = 148) → K10 s:=by
    rintro ⟨e0,H,mm,nt⟩ ⟨e1,D1,lim,hz1,hl1,hB,hD1,rfl,hnb,g0b,g1b,g2b,g3b,g4b,g10b,g11b,g12b,rfl⟩
    simp only [] at g0b g1b g2b g3b g4b g10b g11b g12b
    simp only [] at hnb
    refine hK10 _ ?_
    refine .sq fun K11 hK11=>?_
    refine .region ?_
    refine .k 4 ?_ (by simp (disch:=first|omega|(simp only[ln];omega)) [List.take_succ_cons,List.take_zero,g0b,g1b,g2b,g3b,g4b,g10b,g11b,g12b]; rfl)
    refine .a (pvtPt_ac P cv f caps hc e1 n id _ _ hz1 (by simp [hD1]) (by first|omega|(simp;done)|(simp;omega)) hl p q (by omega) (by omega)) hb285 ?_ (ha:=by simp (disch:=first|omega|(simp only[ln];omega)) [idf_Wd',g0b,g1b,g2b,g3b,g4b,g10b,g11b,g12b])
    rintro _ _ nx5 ⟨rfl,rfl,hn5⟩
    simp only [] at hn5
    obtain ⟨V,hV⟩ : ∃ V,V = pvV (ltc cv) e1 p q:=⟨_,rfl⟩
    have hVr:=pvV_in hV (by omega)
    have hVB:=pdqB_hnt (ltc cv) hV lim wb wp
    rw [hB] at hVB
    rw [← hV]
    refine .e ?_ (by simp (disch:=first|omega|(simp only[ln];omega)) [g0b,g1b,g2b,g3b,g4b,g10b,g11b,g12b]; rfl)
    refine hK11 _ ?_
    refine .sq fun K12 hK12=>?_
    have J12 : ∀ s : St,(∃ (e2 : Array α) (D2 : List (List AV)) (pv : Nat) (hn2 : Int),(e2.size = n) ∧ (p ≤ pv ∧ pv < q) ∧ (pdqC (ltc cv) e2 p q lim wb wp pv (hn2 == 1) = Sort.pdq (ltc cv) d a b limit true true) ∧ (D2 = rwA (fun x=>(Pt.cells (P x))) e2) ∧ (s.heap = hupd HP id (some (12,D2))) ∧ (nx ≤ s.nx) ∧ s.env 0 = .osl id 0 n ∧ s.env 1 = .int .i64 (p : Int) ∧ s.env 2 = .int .i64 (q : Int) ∧ s.env 3 = .int .i64 (lim : Int) ∧ s.env 4 = .fn f caps ∧ s.env 10 = .bool wb ∧ s.env 11 = .bool wp ∧ s.env 12 = .int .i64 (len : Int) ∧ s.env 13 = .int .i64 (pv : Int) ∧ s.env 14 = .int .i64 hn2 ∧ s.nt = 148) → K12 s:=by
     rintro ⟨e0,H,mm,nt⟩ ⟨e2,D2,pv,hn2,hz2,hpv,hC,hD2,rfl,hnc,g0c,g1c,g2c,g3c,g4c,g10c,g11c,g12c,g13c,g14c,rfl⟩
     simp only [] at g0c g1c g2c g3c g4c g10c g11c g12c g13c g14c
     simp only [] at hnc
     refine hK12 _ ?_
     refine .sq fun K13 hK13=>?_
     have J13 : ∀ s : St,(∃ (e3 : Array α) (D3 : List (List AV)),(e3.size = n) ∧ (pdqD (ltc cv) e3 p q lim wb wp pv = Sort.pdq (ltc cv) d a b limit true true) ∧ (D3 = rwA (fun x=>(Pt.cells (P x))) e3) ∧ (s.heap = hupd HP id (some (12,D3))) ∧ (nx ≤ s.nx) ∧ s.env 0 = .osl id 0 n ∧ s.env 1 = .int .i64 (p : Int) ∧ s.env 2 = .int .i64 (q : Int) ∧ s.env 3 = .int .i64 (lim : Int) ∧ s.env 4 = .fn f caps ∧ s.env 10 = .bool wb ∧ s.env 11 = .bool wp ∧ s.env 12 = .int .i64 (len : Int) ∧ s.env 13 = .int .i64 (pv : Int) ∧ s.nt = 148) → K13 s:=by
      rintro ⟨e0,H,mm,nt⟩ ⟨e3,D3,hz3,hDD,hD3,rfl,hnd,g0d,g1d,g2d,g3d,g4d,g10d,g11d,g12d,g13d,rfl⟩
      simp only [] at g0d g1d g2d g3d g4d g10d g11d g12d g13d
      simp only [] at hnd
      have hpm : 0 < p → (p : Int) - 1 = ((p - 1 : Nat) : Int):=fun h=>by omega
      refine hK13 _ ?_
      refine .sq fun K14 hK14=>?_
      refine .sq fun K15 hK15=>?_
      have J15 : ∀ s : St,((s.heap = hupd HP id (some (12,D3))) ∧ (nx ≤ s.nx) ∧ s.env 0 = .osl id 0 n ∧ s.env 1 = .int .i64 (p : Int) ∧ s.env 2 = .int .i64 (q : Int) ∧ s.env 3 = .int .i64 (lim : Int) ∧ s.env 4 = .fn f caps ∧ s.env 10 = .bool wb ∧ s.env 11 = .bool wp ∧ s.env 12 = .int .i64 (len : Int) ∧ s.env 13 = .int .i64 (pv : Int) ∧ s.env 97 = .bool (decide (0 < p ∧ ltc cv (gA e3 (p - 1)) (gA e3 pv) = false)) ∧ s.nt = 148) → K15 s:=by
       rintro ⟨e0,H,mm,nt⟩ ⟨rfl,hndq,g0q,g1q,g2q,g3q,g4q,g10q,g11q,g12q,g13q,g97q,rfl⟩
       simp only [] at g0q g1q g2q g3q g4q g10q g11q g12q g13q g97q
       simp only [] at hndq
       refine hK15 _ ?_
       refine .c (t:=decide (0 < p ∧ ltc cv (gA e3 (p - 1)) (gA e3 pv) = false)) (fun h97=>?_) (fun h97=>?_) (by simp (disch:=first|omega|(simp only[ln];omega)) [g97q])
       ·simp only [dc] at h97
        refine .sq fun K16 hK16=>?_
        refine .region ?_
        refine .k 5 ?_ (by simp (disch:=first|omega|(simp only[ln];omega)) [List.take_succ_cons,List.take_zero,g0q,g1q,g2q,g3q,g4q,g10q,g11q,g12q,g13q,g97q]; rfl)
        refine .a (peqPt_ac P cv f caps hc e3 n id _ _ hz3 (by simp [hD3]) (by first|omega|(simp;done)|(simp;omega)) hl p q pv (by omega) (by omega) (by omega)) hb288 ?_ (ha:=by simp (disch:=first|omega|(simp only[ln];omega)) [idf_Wd',g0q,g1q,g2q,g3q,g4q,g10q,g11q,g12q,g13q,g97q])
        rintro _ _ nx8 ⟨rfl,rfl,hn8,hm1,hm2,hm3⟩
        simp only [] at hn8
        obtain ⟨V2,hV2⟩ : ∃ V,V = Sort.partitionEqual (ltc cv) e3 p q pv:=⟨_,rfl⟩
        rw [← hV2] at hm1 hm2 hm3 ⊢
        rw [pdqD_eq _ hV2 h97.1 h97.2 hm1 hm2] at hDD
        refine .e ?_ (by simp (disch:=first|omega|(simp only[ln];omega)) [g0q,g1q,g2q,g3q,g4q,g10q,g11q,g12q,g13q,g97q]; rfl)
        refine hK16 _ ?_
        refine .q ?_ (by simp (disch:=first|omega|(simp only[ln];omega)) [g0q,g1q,g2q,g3q,g4q,g10q,g11q,g12q,g13q,g97q]; rfl)
        refine .exit ?_
        refine ⟨q - V2.1,by omega,V2.1,q,lim,wb,wp,V2.2,_,rfl,by omega,by omega,by omega,by omega,hm3,hDD,rfl,by first|(simp;done)|(first|rfl|(simp only [hupd_same];done)|(simp only [hupd_same];rfl)),by simp; omega,?_,?_,?_,?_,?_,?_,?_,rfl⟩ <;> first|(simp (disch:=omega) [g0q,g1q,g2q,g3q,g4q,g10q,g11q,g12q,g13q,g97q];done)|omega|(simp;done)|(simp;omega)
       ·simp only [dc] at h97
        refine .skip ?_
        refine hK14 _ ?_
        refine .sq fun K18 hK18=>?_
        refine .region ?_
        refine .k 5 ?_ (by simp (disch:=first|omega|(simp only[ln];omega)) [List.take_succ_cons,List.take_zero,g0q,g1q,g2q,g3q,g4q,g10q,g11q,g12q,g13q,g97q]; rfl)
        refine .a (prtPt_ac P cv f caps hc e3 n id _ _ hz3 (by simp [hD3]) (by first|omega|(simp;done)|(simp;omega)) hl p q pv (by omega) (by omega) (by omega)) hb289 ?_ (ha:=by simp (disch:=first|omega|(simp only[ln];omega)) [idf_Wd',g0q,g1q,g2q,g3q,g4q,g10q,g11q,g12q,g13q,g97q])
        rintro _ _ nx8 ⟨rfl,rfl,hn8⟩
        simp only [] at hn8
        obtain ⟨V2,hV2⟩ : ∃ V,V = Sort.partition (ltc cv) e3 p q pv:=⟨_,rfl⟩
        have hV3:=prt_in hswo hV2 (by omega) (by omega) hqn hz3
        rw [← hV2]
        obtain ⟨mid,hmid⟩ : ∃ m,m = V2.1:=⟨_,rfl⟩
        obtain ⟨apr,hapr⟩ : ∃ m,m = V2.2.1:=⟨_,rfl⟩
        obtain ⟨e4,he4⟩ : ∃ m,m = V2.2.2:=⟨_,rfl⟩
        rw [← hmid,← hapr,← he4]
        rw [← hmid,← he4] at hV3
        obtain ⟨hV4,hV5,hV6⟩:=hV3
        rw [pdqD_prt _ hV2 h97 hmid hapr he4 hV4 hV5] at hDD
        have emid : (mid : Int) - (p : Int) = ((mid - p : Nat) : Int):=by omega
        have emid2 : (q : Int) - (mid : Int) = ((q - mid : Nat) : Int):=by omega
        have eq8 : Int.tdiv (len : Int) 8 = ((len / 8 : Nat) : Int):=(Int.ofNat_tdiv len 8).symm
        have hmq : mid + 1 ≤ q:=hV5
        refine .e ?_ (by simp (disch:=first|omega|(simp only[ln];omega)) [g0q,g1q,g2q,g3q,g4q,g10q,g11q,g12q,g13q,g97q]; rfl)
        refine hK18 _ ?_
        refine .q ?_ (by simp (disch:=first|omega|(simp only[ln];omega)) [g0q,g1q,g2q,g3q,g4q,g10q,g11q,g12q,g13q,g97q]; rfl)
        refine .q ?_ (by simp (disch:=first|omega|(simp only[ln];omega)) [g0q,g1q,g2q,g3q,g4q,g10q,g11q,g12q,g13q,g97q,emid,emid2]; rfl)
        refine .q ?_ (by simp (disch:=first|omega|(simp only[ln];omega)) [g0q,g1q,g2q,g3q,g4q,g10q,g11q,g12q,g13q,g97q,eq8]; rfl)
        refine .q ?_
        refine .c (t:=decide (mid - p < q - mid)) (fun h125=>?_) (fun h125=>?_)
        ·try simp only[dc]at h125
         have h125' : mid - p < q - mid:=by omega
         rw [if_pos h125'] at hDD
         refine .q ?_
         refine .sq fun K24 hK24=>?_
         refine .region ?_
         refine .k 5 ?_ (by simp (disch:=first|omega|(simp only[ln];omega)) [List.take_succ_cons,List.take_zero,g0q,g1q,g2q,g3q,g4q,g10q,g11q,g12q,g13q,g97q]; rfl)
         refine .a (IH e4 _ _ p mid lim hV6 (by simp [hupd]) (by first|omega|(simp;done)|(simp;omega)) (by omega) (by omega) (by omega) hl1) hb255 ?_ (ha:=by simp (disch:=first|omega|(simp only[ln];omega)) [idf_Wd',g0q,g1q,g2q,g3q,g4q,g10q,g11q,g12q,g13q,g97q])
         rintro _ _ nx9 ⟨rfl,rfl,hn9,hsz⟩
         simp only [] at hn9
         refine .nil ?_
         refine hK24 _ ?_
         
         refine .r ?_
         refine ⟨q - (mid + 1),by omega,(mid + 1),q,lim,(decide (mid - p ≥ (q - p) / 8)),apr,(Sort.pdq (ltc cv) e4 p mid lim true true),_,rfl,by omega,by omega,by omega,by omega,hsz,hDD,rfl,by first|(simp;done)|(first|rfl|(simp only [hupd_same];done)|(simp only [hupd_same];rfl)),by simp; omega,?_,?_,?_,?_,?_,?_,?_,rfl⟩ <;> first|(simp (disch:=omega) [g0q,g1q,g2q,g3q,g4q,g10q,g11q,g12q,g13q,g97q,hlen];done)|omega|(simp;done)|(simp;omega)
        ·try simp only[dc]at h125
         have h125' : ¬ mid - p < q - mid:=by omega
         rw [if_neg h125'] at hDD
         refine .q ?_
         refine .sq fun K26 hK26=>?_
         refine .region ?_
         refine .k 6 ?_ (by simp (disch:=first|omega|(simp only[ln];omega)) [List.take_succ_cons,List.take_zero,g0q,g1q,g2q,g3q,g4q,g10q,g11q,g12q,g13q,g97q]; rfl)
         refine .a (IH e4 _ _ (mid + 1) q lim hV6 (by simp [hupd]) (by first|omega|(simp;done)|(simp;omega)) (by omega) (by omega) (by omega) hl1) hb255 ?_ (ha:=by simp (disch:=first|omega|(simp only[ln];omega)) [idf_Wd',g0q,g1q,g2q,g3q,g4q,g10q,g11q,g12q,g13q,g97q])
         rintro _ _ nx9 ⟨rfl,rfl,hn9,hsz⟩
         simp only [] at hn9
         refine .nil ?_
         refine hK26 _ ?_
         
         refine .r ?_
         refine ⟨mid - p,by omega,p,mid,lim,(decide (q - mid ≥ (q - p) / 8)),apr,(Sort.pdq (ltc cv) e4 (mid + 1) q lim true true),_,rfl,by omega,by omega,by omega,by omega,hsz,hDD,rfl,by first|(simp;done)|(first|rfl|(simp only [hupd_same];done)|(simp only [hupd_same];rfl)),by simp; omega,?_,?_,?_,?_,?_,?_,?_,rfl⟩ <;> first|(simp (disch:=omega) [g0q,g1q,g2q,g3q,g4q,g10q,g11q,g12q,g13q,g97q,hlen];done)|omega|(simp;done)|(simp;omega)
      by_cases hgd : 0 < p
      ·replace hpm:=hpm hgd
       have ha1 : D3[(p - 1)]? = some (Pt.cells (P (gA e3 (p - 1)))):=by rw [hD3]; exact rwA_get (by omega)
       have hg1 : ∀ h : (p - 1) < D3.length,D3[(p - 1)] = (Pt.cells (P (gA e3 (p - 1)))):=fun h=>by rw [List.getElem?_eq_getElem h] at ha1; simpa using ha1
       have ha2 : D3[pv]? = some (Pt.cells (P (gA e3 pv))):=by rw [hD3]; exact rwA_get (by omega)
       have hg2 : ∀ h : pv < D3.length,D3[pv] = (Pt.cells (P (gA e3 pv))):=fun h=>by rw [List.getElem?_eq_getElem h] at ha2; simpa using ha2
       have hcl : D3.length = n:=by rw [hD3,rwA_len]; assumption
       have hz1 : (p - 1) < n:=by omega
       have hz2 : pv < n:=by omega
       refine .d 17 ?_
       refine .k 13 (fun fs27 hfs27=>?_) (by simp (disch:=first|omega|(simp only[ln];omega)) [List.take_succ_cons,List.take_zero,if_pos,g0d,g1d,g2d,g3d,g4d,g10d,g11d,g12d,g13d,hgd,hpm,ha1,ha2,hcl,hg1,hg2,hz1,hz2,hid]; rfl)
       refine DP.fcall (hc.2 (gA e3 (p - 1)) (gA e3 pv)) rfl rfl (by simp; rfl) hc.1 (by simp (disch:=first|omega|(simp only[ln];omega)) [idf_Wd']) (by simp (disch:=first|omega|(simp only[ln];omega))) (by simp) ?_
       simp only [updo]
       refine .k 3 (fun fs28 hfs28=>?_) (by simp (disch:=first|omega|(simp only[ln];omega)) [List.take_succ_cons,List.take_zero,if_pos]; rfl)
       refine .r 17 (by simp only[ln,hfs27,hfs28];omega) ?_ (by simp (disch:=first|omega|(simp only[ln];omega)) [if_pos]; rfl)
       refine J15 _ ?_
       refine ⟨by simp,by simp; omega,?_,?_,?_,?_,?_,?_,?_,?_,?_,?_,rfl⟩ <;> first|(simp (disch:=omega) [g0d,g1d,g2d,g3d,g4d,g10d,g11d,g12d,g13d,hgd,ltc];done)|(simp;done)|(simp;omega)|(simp (disch:=omega) [g0d,g1d,g2d,g3d,g4d,g10d,g11d,g12d,g13d,hgd,ltc] <;> omega)|(simp (disch:=omega) [g0d,g1d,g2d,g3d,g4d,g10d,g11d,g12d,g13d,hgd,ltc];exact dneg _)
      ·
       refine .df 17 ?_ (by simp (disch:=first|omega|(simp only[ln];omega)) [if_pos,g0d,g1d,g2d,g3d,g4d,g10d,g11d,g12d,g13d,hgd]; rfl)
       refine J15 _ ?_
       refine ⟨by simp,by simp; omega,?_,?_,?_,?_,?_,?_,?_,?_,?_,?_,rfl⟩ <;> first|(simp (disch:=omega) [g0d,g1d,g2d,g3d,g4d,g10d,g11d,g12d,g13d,hgd,ltc];done)|(simp;done)|(simp;omega)|(simp (disch:=omega) [g0d,g1d,g2d,g3d,g4d,g10d,g11d,g12d,g13d,hgd,ltc] <;> omega)|(simp (disch:=omega) [g0d,g1d,g2d,g3d,g4d,g10d,g11d,g12d,g13d,hgd,ltc];exact dneg _)
     refine .sq fun K29 hK29=>?_
     have J29 : ∀ s : St,((s.heap = hupd HP id (some (12,D2))) ∧ (nx ≤ s.nx) ∧ s.env 0 = .osl id 0 n ∧ s.env 1 = .int .i64 (p : Int) ∧ s.env 2 = .int .i64 (q : Int) ∧ s.env 3 = .int .i64 (lim : Int) ∧ s.env 4 = .fn f caps ∧ s.env 10 = .bool wb ∧ s.env 11 = .bool wp ∧ s.env 12 = .int .i64 (len : Int) ∧ s.env 13 = .int .i64 (pv : Int) ∧ s.env 14 = .int .i64 hn2 ∧ s.env 75 = .bool (wb && wp && (hn2 == 1)) ∧ s.nt = 148) → K29 s:=by
      rintro ⟨e0,H,mm,nt⟩ ⟨rfl,hne,g0e,g1e,g2e,g3e,g4e,g10e,g11e,g12e,g13e,g14e,g75e,rfl⟩
      simp only [] at g0e g1e g2e g3e g4e g10e g11e g12e g13e g14e g75e
      simp only [] at hne
      refine hK29 _ ?_
      refine .c (t:=wb && wp && (hn2 == 1)) (fun h75=>?_) (fun h75=>?_) (by simp (disch:=first|omega|(simp only[ln];omega)) [g75e])
      ·
       unfold pdqC at hC
       rw [if_pos h75] at hC
       refine .sq fun K30 hK30=>?_
       refine .region ?_
       refine .k 4 ?_ (by simp (disch:=first|omega|(simp only[ln];omega)) [List.take_succ_cons,List.take_zero,g0e,g1e,g2e,g3e,g4e]; rfl)
       refine .a (parPt_ac P cv f caps hc e2 n id _ _ hz2 (by simp [hD2]) (by first|omega|(simp;done)|(simp;omega)) hl p q (by omega) (by omega)) hb287 ?_ (ha:=by simp (disch:=first|omega|(simp only[ln];omega)) [idf_Wd',g0e,g1e,g2e,g3e,g4e])
       rintro _ _ nx7 ⟨rfl,rfl,hn7⟩
       simp only [] at hn7
       refine .nil ?_
       refine hK30 _ ?_
       refine .c (t:=(Sort.partialInsertionSort (ltc cv) e2 p q).2) (fun h80=>?_) (fun h80=>?_)
       ·
        rw [if_pos h80] at hC
        refine .ret ?_
        exact hK _ _ _ _ _ trivial (Fin.m) (⟨rfl,by rw [← hC]; simp only [hupd_same],by simp; omega,by rw [← hC,parS_size]; exact hz2⟩)
       ·
        rw [if_neg (by rw [h80]; simp)] at hC
        refine .skip ?_
        refine J13 _ ?_
        refine ⟨_,_,by rw [parS_size]; exact hz2,hC,rfl,by first|(simp;done)|(first|rfl|(simp only [hupd_same];done)|(simp only [hupd_same];rfl)),by first|(simp;done)|(simp;omega),?_,?_,?_,?_,?_,?_,?_,?_,?_,rfl⟩ <;> first|(simp (disch:=omega) [g0e,g1e,g2e,g3e,g4e,g10e,g11e,g12e,g13e];done)|omega|(simp;done)|(simp;omega)
      ·
       unfold pdqC at hC
       rw [if_neg (by rw [h75]; simp)] at hC
       refine .skip ?_
       refine J13 _ ?_
       refine ⟨e2,D2,hz2,hC,hD2,by first|(simp;done)|(first|rfl|(simp only [hupd_same];done)|(simp only [hupd_same];rfl)),by first|(simp;done)|(simp;omega),?_,?_,?_,?_,?_,?_,?_,?_,?_,rfl⟩ <;> first|(simp (disch:=omega) [g0e,g1e,g2e,g3e,g4e,g10e,g11e,g12e,g13e];done)|omega|(simp;done)|(simp;omega)
     cases hb1 : wb <;> cases hb2 : wp
     ·refine .r ?_ (by simp (disch:=first|omega|(simp only[ln];omega)) [g0c,g1c,g2c,g3c,g4c,g10c,g11c,g12c,g13c,g14c,hb1,hb2]; rfl)
      refine J29 _ ?_
      refine ⟨by simp,by simp; omega,?_,?_,?_,?_,?_,?_,?_,?_,?_,?_,?_,rfl⟩ <;> first|(simp (disch:=omega) [g0c,g1c,g2c,g3c,g4c,g10c,g11c,g12c,g13c,g14c,hb1,hb2];done)|(simp;done)|(simp;omega)
     ·refine .r ?_ (by simp (disch:=first|omega|(simp only[ln];omega)) [g0c,g1c,g2c,g3c,g4c,g10c,g11c,g12c,g13c,g14c,hb1,hb2]; rfl)
      refine J29 _ ?_
      refine ⟨by simp,by simp; omega,?_,?_,?_,?_,?_,?_,?_,?_,?_,?_,?_,rfl⟩ <;> first|(simp (disch:=omega) [g0c,g1c,g2c,g3c,g4c,g10c,g11c,g12c,g13c,g14c,hb1,hb2];done)|(simp;done)|(simp;omega)
     ·refine .r ?_ (by simp (disch:=first|omega|(simp only[ln];omega)) [g0c,g1c,g2c,g3c,g4c,g10c,g11c,g12c,g13c,g14c,hb1,hb2]; rfl)
      refine J29 _ ?_
      refine ⟨by simp,by simp; omega,?_,?_,?_,?_,?_,?_,?_,?_,?_,?_,?_,rfl⟩ <;> first|(simp (disch:=omega) [g0c,g1c,g2c,g3c,g4c,g10c,g11c,g12c,g13c,g14c,hb1,hb2];done)|(simp;done)|(simp;omega)
     ·refine .r ?_ (by simp (disch:=first|omega|(simp only[ln];omega)) [g0c,g1c,g2c,g3c,g4c,g10c,g11c,g12c,g13c,g14c,hb1,hb2]; rfl)
      refine J29 _ ?_
      refine ⟨by simp,by simp; omega,?_,?_,?_,?_,?_,?_,?_,?_,?_,?_,?_,rfl⟩ <;> first|(simp (disch:=omega) [g0c,g1c,g2c,g3c,g4c,g10c,g11c,g12c,g13c,g14c,hb1,hb2];done)|(simp;done)|(simp;omega)
    refine .q ?_ (by simp (disch:=first|omega|(simp only[ln];omega)) [g0b,g1b,g2b,g3b,g4b,g10b,g11b,g12b]; rfl)
    refine .c (t:=(hnt V.2 == 2)) (fun h56=>?_) (fun h56=>?_)
    ·
     rw [if_pos (by simpa using h56)] at hVB
     have evv : (q : Int) - 1 - ((V.1 : Int) - (p : Int)) = ((q - 1 - (V.1 - p) : Nat) : Int):=by omega
     refine .sq fun K32 hK32=>?_
     refine .region ?_
     refine .k 4 ?_ (by simp (disch:=first|omega|(simp only[ln];omega)) [List.take_succ_cons,List.take_zero,g0b,g1b,g2b,g3b,g4b,g10b,g11b,g12b]; rfl)
     refine .a (revPt_ac P cv f caps hc e1 n id _ _ hz1 (by simp [hD1]) (by first|omega|(simp;done)|(simp;omega)) hl p q (by omega) (by omega)) hb286 ?_ (ha:=by simp (disch:=first|omega|(simp only[ln];omega)) [idf_Wd',g0b,g1b,g2b,g3b,g4b,g10b,g11b,g12b])
     rintro _ _ nx6 ⟨rfl,rfl,hn6⟩
     simp only [] at hn6
     refine .nil ?_
     refine hK32 _ ?_
     refine .q ?_ (by simp (disch:=first|omega|(simp only[ln];omega)) [g0b,g1b,g2b,g3b,g4b,g10b,g11b,g12b,evv]; rfl)
     
     refine .r ?_
     refine J12 _ ?_
     refine ⟨_,_,(q - 1 - (V.1 - p)),1,by rw [rev_size hpq (by rw [hz1]; exact hqn)]; exact hz1,⟨by omega,by omega⟩,hVB.symm,rfl,by first|(simp;done)|(first|rfl|(simp only [hupd_same];done)|(simp only [hupd_same];rfl)),by first|(simp;done)|(simp;omega),?_,?_,?_,?_,?_,?_,?_,?_,?_,?_,rfl⟩ <;> first|(simp (disch:=omega) [g0b,g1b,g2b,g3b,g4b,g10b,g11b,g12b,evv];done)|omega|(simp;done)|(simp;omega)
    ·
     rw [if_neg (by simpa using h56)] at hVB
     refine .skip ?_
     refine J12 _ ?_
     refine ⟨e1,D1,V.1,(hnt V.2),hz1,⟨by omega,by omega⟩,hVB.symm,hD1,by first|(simp;done)|(first|rfl|(simp only [hupd_same];done)|(simp only [hupd_same];rfl)),by first|(simp;done)|(simp;omega),?_,?_,?_,?_,?_,?_,?_,?_,?_,?_,rfl⟩ <;> first|(simp (disch:=omega) [g0b,g1b,g2b,g3b,g4b,g10b,g11b,g12b];done)|omega|(simp;done)|(simp;omega)
   refine .q ?_ (by simp (disch:=first|omega|(simp only[ln];omega)) [g0,g1,g2,g3,g4,g10,g11]; rfl)
   refine .c (t:=!wb) (fun h39=>?_) (fun h39=>?_)
   ·
    have hwb : wb = false:=by simpa using h39
    rw [if_neg (by simp [hwb]),if_neg (by simp [hwb])] at hE
    refine .sq fun K35 hK35=>?_
    refine .region ?_
    refine .k 4 ?_ (by simp (disch:=first|omega|(simp only[ln];omega)) [List.take_succ_cons,List.take_zero,g0,g1,g2,g3,g4,g10,g11]; rfl)
    refine .a (brkPt_ac P cv f caps hc e n id _ _ he (by simp [hD]) (by first|omega|(simp;done)|(simp;omega)) hl p q (by omega) (by omega)) hb284 ?_ (ha:=by simp (disch:=first|omega|(simp only[ln];omega)) [idf_Wd',g0,g1,g2,g3,g4,g10,g11])
    rintro _ _ nx3 ⟨rfl,rfl,hn3⟩
    simp only [] at hn3
    have hlim1 : (lim : Int) - 1 = ((lim - 1 : Nat) : Int):=by omega
    refine .nil ?_
    refine hK35 _ ?_
    refine .r ?_ (by simp (disch:=first|omega|(simp only[ln];omega)) [g0,g1,g2,g3,g4,g10,g11,hlim1]; rfl)
    refine J10 _ ?_
    refine ⟨_,_,(lim - 1),by rw [brk_size hpq (by rw [he]; exact hqn)]; exact he,by omega,hE,rfl,by first|(simp;done)|(first|rfl|(simp only [hupd_same];done)|(simp only [hupd_same];rfl)),by first|(simp;done)|(simp;omega),?_,?_,?_,?_,?_,?_,?_,?_,rfl⟩ <;> first|(simp (disch:=omega) [g0,g1,g2,g3,g4,g10,g11,hlim1];done)|omega|(simp;done)|(simp;omega)
   ·
    have hwb : wb = true:=by simpa using h39
    rw [if_pos hwb,if_pos hwb] at hE
    refine .skip ?_
    refine J10 _ ?_
    refine ⟨e,D,lim,he,by omega,hE,hD,by first|(simp;done)|(first|rfl|(simp only [hupd_same];done)|(simp only [hupd_same];rfl)),by first|(simp;done)|(simp;omega),?_,?_,?_,?_,?_,?_,?_,?_,rfl⟩ <;> first|(simp (disch:=omega) [g0,g1,g2,g3,g4,g10,g11];done)|omega|(simp;done)|(simp;omega)
end
theorem pdqPt_ac {α : Type} [Inhabited α] (P : α → Pt) (cv : α → α → Int) (f : Nat) (caps : List AV) (hc : CmpF Tryz.prog f caps (fun x=>.agg (Pt.cells (P x))) cv) (hswo : Sort.SWO (ltc cv)) (n id : Nat) (hl : n ≤ 1099511627776) : ∀ (k : Nat) (d : Array α) (HP : Heap) (nx a b limit : Nat),d.size = n → HP id = some (12,rwA (fun x=>(Pt.cells (P x))) d) → id < nx → a ≤ b → b ≤ n → b - a ≤ k → limit ≤ 64 → ACall Tryz.prog 255 [.osl id 0 n,.int .i64 (a : Int),.int .i64 (b : Int),.int .i64 (limit : Int),.fn f caps] HP nx (fun r H' nx'=>r = .tup [] ∧ H' = hupd HP id (some (12,rwA (fun x=>(Pt.cells (P x))) (Sort.pdq (ltc cv) d a b limit true true))) ∧ nx ≤ nx' ∧ (Sort.pdq (ltc cv) d a b limit true true).size = n):=by
  intro k
  induction k with
  | zero =>
    intro d HP nx a b limit hn hH hid hab hb hk hlim
    exact pdqSPt_ac P cv f caps hc d n id HP nx hn hH hid hl a b limit hab hb hlim hswo (fun e HP' nx' lo hi lim h1 h2 h3 h4 h5 h6 h7=>by omega)
  | succ k ih =>
    intro d HP nx a b limit hn hH hid hab hb hk hlim
    exact pdqSPt_ac P cv f caps hc d n id HP nx hn hH hid hl a b limit hab hb hlim hswo (fun e HP' nx' lo hi lim h1 h2 h3 h4 h5 h6 h7=>ih e HP' nx' lo hi lim h1 h2 h3 h4 h5 (by omega) h7)
section
attribute [local simp] runDf.eq_def runF1 runF2 stepF.eq_def updo.eq_def hupo.eq_def opSto1.eq_def runQ runT qOk.eq_def qnone asksB.eq_def topId.eq_def Op.operands List.take_succ_cons List.take_zero List.drop_succ_cons List.drop_zero Pt.cells
set_option maxHeartbeats 4000000 in
theorem sortPt_ac {α : Type} [Inhabited α] (P : α → Pt) (cv : α → α → Int) (f : Nat) (caps : List AV) (hc : CmpF Tryz.prog f caps (fun x=>.agg (Pt.cells (P x))) cv) (hswo : Sort.SWO (ltc cv)) (d : Array α) (n id : Nat) (HP : Heap) (nx : Nat) (hn : d.size = n) (hH : HP id = some (12,rwA (fun x=>(Pt.cells (P x))) d)) (hid : id < nx) (hl : n ≤ 1099511627776) : ACall Tryz.prog 202 [.osl id 0 n,.fn f caps] HP nx (fun r H' nx'=>r = .tup [] ∧ H' = hupd HP id (some (12,rwA (fun x=>(Pt.cells (P x))) (Sort.sort (ltc cv) d))) ∧ nx ≤ nx'):=by
 have hb64:=(Sort.bitsLen_le_iff n 41).2 (by omega)
 refine .b Tryz.func202 14 fun K hK=>?_
 refine .q ?_ (by simp (disch:=first|omega|(simp only[ln];omega)) [hH]; rfl)
 refine .region ?_
 refine .kf 4 (bitsLen_fc n (by omega)) hb209 ?_ (by simp (disch:=first|omega|(simp only[ln];omega)) [List.take_succ_cons,List.take_zero,bitLen_bits]; rfl) (ha:=by simp (disch:=first|omega|(simp only[ln];omega)) [idf_Wd',bitLen_bits])
 refine .k 1 ?_ (by simp (disch:=first|omega|(simp only[ln];omega)) [List.take_succ_cons,List.take_zero,bitLen_bits]; rfl)
 refine .a (pdqPt_ac P cv f caps hc hswo n id hl (n - 0) d _ _ 0 n (Sort.bitsLen n) hn hH (by first|omega|(simp;done)|(simp;omega)) (Nat.zero_le _) (Nat.le_refl _) (Nat.le_refl _) (by omega)) hb255 ?_ (ha:=by simp (disch:=first|omega|(simp only[ln];omega)) [idf_Wd',bitLen_bits])
 rintro _ _ nx4 ⟨rfl,rfl,hn4,hsz⟩
 simp only [] at hn4
 refine .nil ?_
 exact hK _ _ _ _ _ trivial (Fin.m) (⟨rfl,by rw [← hn]; rfl,by simp; omega⟩)
end

end Go.Proofs.YtaibemhdfhchfaaGreat

/- Walks: hits: the segments on which a point lies; a point put into a map and a row. -/
namespace Go.Proofs.YtaibemhdfhchfaaGreat
open Go Go.RowKit
set_option linter.unusedSimpArgs false
set_option linter.unusedVariables false
set_option maxRecDepth 100000
attribute [local simp] szT2 byT2 agT2 unT2 zoT2 szT3 byT3 agT3 unT3 zoT3 szT24 byT24 agT24 elT24 unT24 zoT24 szT27 byT27 agT27 flT27 fdT27_0 fdT27_1 fdT27_2 fdT27_3 zoT27 szT29 byT29 agT29 flT29 fdT29_0 fdT29_1 fdT29_2 zoT29 szT32 byT32 agT32 elT32 unT32 zoT32 szT38 byT38 agT38 flT38 fdT38_0 fdT38_1 zoT38 szT40 byT40 agT40 flT40 fdT40_0 fdT40_1 zoT40

theorem onL_step (L : List Sg) (p : Pt) (i : Nat) : onN L p (i + 1) = onN L p i ++ (if onF (gq L i) p = true then [(i : Int)] else []):=rfl
theorem onL_yes {L : List Sg} {p : Pt} {i : Nat} (h : onF (gq L i) p = true) : onN L p (i + 1) = onN L p i ++ [(i : Int)]:=by rw [onL_step,if_pos h]
theorem onL_no {L : List Sg} {p : Pt} {i : Nat} (h : onF (gq L i) p = false) : onN L p (i + 1) = onN L p i:=by rw [onL_step,h]; simp

section
attribute [local simp] idf_numS cells_numS numS_fold idf_numI cells_numI numI_fold Sp.av Sp.cells Sg.av Sg.cells Pt.av Pt.cells
set_option maxHeartbeats 4000000 in
theorem hitAt_own (L : List Sg) (p : Pt) (hp : p.ok) (hl : L.length ≤ 1048576) (z2 : ∀ s ∈ L,s.good = true) (nx : Nat) : ACall Tryz.prog 137 [.isl (L.map Sg.cells),p.av] (fun _=>none) nx (own1 nx 1 (wd .i64 (onL L p)) (fun id=>.osl id 0 (onL L p).length)):=by
 refine .b Tryz.func137 25 fun K hK=>?_
 refine .q ?_
 refine .q ?_
 refine .sq fun K3 hK3=>?_
 refine AWP.frz1 3 nx 12 [(Pt.cells p)] (.ip (Pt.cells p)) (by simp (disch:=omega) [Pt.cells]) (by simp (disch:=omega) [fz,Pt.cells]) ?_
 refine .q ?_ (by simp (disch:=first|omega|(simp only[ln];omega)) [List.length_map]; rfl)
 refine .block ?_
 
 refine .loop (fun N s=>∃ i : Nat,∃ C : List Int,∃ io : Nat,N = L.length - i ∧ i ≤ L.length ∧ (C = onN L p i) ∧ (nx ≤ io) ∧ s.env 0 = .isl (L.map Sg.cells) ∧ s.env 3 = .ip (Pt.cells p) ∧ s.env 5 = .osl io 0 C.length ∧ s.env 9 = .isl (L.map Sg.cells) ∧ s.env 10 = .int .i64 (L.length : Int) ∧ s.env 11 = .int .i64 (i : Int) ∧ s.heap io = some (1,wd .i64 C) ∧ io < s.nx ∧ s.nt = 25) (L.length) (by refine ⟨0,[],(nx + 1),by omega,by omega,rfl,by omega,?_,?_,?_,?_,?_,?_,?_,?_,rfl⟩ <;> first|(simp (disch:=omega) [wd];done)|omega|(simp;done)|(simp;omega)) ?_
 rintro N ⟨e,H,mm,nt⟩ ⟨i,C,io,rfl,hi,hC,hio,g0,g3,g5,g9,g10,g11,Ho,xo,rfl⟩
 simp only [] at g0 g3 g5 g9 g10 g11 Ho xo
 refine .q ?_ (by simp (disch:=first|omega|(simp only[ln];omega)) [g10,g11]; rfl)
 refine .sq fun K6 hK6=>?_
 refine .c (fun h12=>?_) (fun h12=>?_)
 ·try simp only[dc]at h12
  have hi' : i < L.length:=by omega
  have hat:=gq_get hi'
  obtain ⟨s0,hs0⟩ : ∃ s0,s0 = gq L i:=⟨_,rfl⟩
  have gs:=z2 _ (gq_mem hi')
  rw [← hs0] at gs
  have hat2 : (L.map Sg.cells)[i]? = some (Sg.cells s0):=by rw [List.getElem?_map,hat,hs0]; rfl
  have hae2 : ∀ h : i < (L.map Sg.cells).length,(L.map Sg.cells)[i] = Sg.cells s0:=fun h=>by rw [List.getElem?_eq_getElem h] at hat2; simpa using hat2
  refine .skip ?_
  refine hK6 _ ?_
  refine .sq fun K7 hK7=>?_
  refine .block ?_
  refine .q ?_ (by simp (disch:=first|omega|(simp only[ln];omega)) [if_pos,g0,g3,g5,g9,g10,g11,Ho,hat2,hae2,hi',List.length_map]; rfl)
  refine .sq fun K9 hK9=>?_
  refine .region ?_
  refine .kf 2 (onSegI_fc s0 p gs hp) hb138 ?_ (by simp (disch:=first|omega|(simp only[ln];omega)) [List.take_succ_cons,List.take_zero,g0,g3,g5,g9,g10,g11,Ho]; rfl) (ha:=by simp (disch:=first|omega|(simp only[ln];omega)) [idf_Wd',g0,g3,g5,g9,g10,g11,Ho])
  refine .nil ?_
  refine hK9 _ ?_
  refine .c (t:=onF s0 p) (fun h18=>?_) (fun h18=>?_)
  ·try simp only[dc]at h18
   rw [hs0] at h18
   have hC' : C ++ [(i : Int)] = onN L p (i + 1):=by rw [onL_yes h18,hC]
   have hCl:=onN_len L p i
   rw [← hC] at hCl
   have hc1 : (C.length + 1) * 8 ≤ 140737488355328:=by omega
   have hc2 : C.length ≤ 9223372036854775806:=by omega
   have hwl : (wd .i64 C).length = C.length:=List.length_map _
   have htk : List.take C.length (wd .i64 C) = wd .i64 C:=List.take_of_length_le (Nat.le_of_eq hwl)
   refine .region ?_
   refine .k 3 ?_ (by simp (disch:=first|omega|(simp only[ln];omega)) [List.take_succ_cons,List.take_zero,g0,g3,g5,g9,g10,g11,Ho]; rfl)
   refine AOPS.opapp (by simp (disch:=first|omega|(simp only[ln];omega)) [opApp.eq_def,aSrc_isl,aSrc_osl,aSrc_nsl,aSrc_int,wd_app,wd_app2,if_pos,wd_append,wd_take,wd_drop,List.nil_append,hc1,hc2,hwl,htk,Ho,src_Wd' (P:=Tryz.prog) elT32]; first | rfl | exact ⟨rfl,rfl⟩ | exact ⟨rfl,rfl,rfl⟩) (by simp) (by simp) ?_
   simp only [puts_some,hdrop]
   refine .e ?_ (by simp (disch:=first|omega|(simp only[ln];omega)) [g0,g3,g5,g9,g10,g11,Ho]; rfl)
   refine hK7 _ ?_
   refine .r ?_ (by simp (disch:=first|omega|(simp only[ln];omega)) [g0,g3,g5,g9,g10,g11,Ho]; rfl)
   refine ⟨L.length - (i + 1),by omega,i + 1,C ++ [(i : Int)],(mm + 1 + 1),rfl,by omega,hC',by first|omega|(simp;omega),?_,?_,?_,?_,?_,?_,?_,?_,rfl⟩ <;> first|(simp (disch:=omega) [wd_append,List.length_append,hwl,htk,g0,g3,g5,g9,g10,g11,Ho];done)|omega|(simp;done)|(simp;omega)
  ·try simp only[dc]at h18
   rw [hs0] at h18
   have hC' : C = onN L p (i + 1):=by rw [onL_no h18]; exact hC
   refine .skip ?_
   refine hK7 _ ?_
   refine .r ?_ (by simp (disch:=first|omega|(simp only[ln];omega)) [g0,g3,g5,g9,g10,g11,Ho]; rfl)
   refine ⟨L.length - (i + 1),by omega,i + 1,C,io,rfl,by omega,hC',hio,?_,?_,?_,?_,?_,?_,?_,?_,rfl⟩ <;> first|(simp (disch:=omega) [g0,g3,g5,g9,g10,g11,Ho];done)|omega|(simp;done)|(simp;omega)
 ·try simp only[dc]at h12
  have hin : i = L.length:=by omega
  subst hin
  have hCs : C = onL L p:=hC
  subst hCs
  refine .exit ?_
  refine hK3 _ ?_
  refine .q ?_ (by simp (disch:=first|omega|(simp only[ln];omega)) [g5]; rfl)
  refine .ret ?_
  exact hK _ _ _ _ _ trivial (Fin.own1 (Fin.mk (by simp (disch:=omega) [aRes,aResL,aRes1]; try rfl)) (id:=io) (by simp [Ho])) (⟨io,by first | omega | (simp; done) | (simp; omega),by first | omega | (simp; done) | (simp; omega),rfl,rfl⟩)
end

end Go.Proofs.YtaibemhdfhchfaaGreat

/- Walks: hits: points, each once, by a map. -/
namespace Go.Proofs.YtaibemhdfhchfaaGreat
open Go Go.RowKit
set_option linter.unusedSimpArgs false
set_option linter.unusedVariables false
set_option maxRecDepth 100000
attribute [local simp] szT27 byT27 agT27 flT27 fdT27_0 fdT27_1 fdT27_2 fdT27_3 zoT27 szT29 byT29 agT29 flT29 fdT29_0 fdT29_1 fdT29_2 zoT29 szT188 byT188 agT188 elT188 unT188 zoT188 szT235 byT235 agT235 unT235 zoT235

theorem pt_rv_inj {p q : Pt} (h : (Pt.cells p).map rv = (Pt.cells q).map rv) : p = q:=by
  obtain ⟨⟨a1,a2,a3,a4⟩,⟨b1,b2,b3,b4⟩,⟨c1,c2,c3,c4⟩⟩:=p
  obtain ⟨⟨d1,d2,d3,d4⟩,⟨e1,e2,e3,e4⟩,⟨f1,f2,f3,f4⟩⟩:=q
  simpa [Pt.cells,rv,and_assoc] using h
def okG (_ : GP) : Prop:=True
def kvG (g : GP) : AV:=.agg (Pt.cells g.1)
theorem u64_wf {n : Int} (h : U64 n) : (Lit.int .u64 n).wf = true:=by
  have e1 : IntKind.u64.min = 0:=rfl
  have e2 : IntKind.u64.max = 18446744073709551615:=rfl
  unfold U64 at h
  simp only [Lit.wf,e1,e2,Bool.and_eq_true,decide_eq_true_eq]; omega
theorem w4_lits {x : W4} (h : x.ok) (d : Nat) : ∃ ls,Tryz.prog.keyLits (d + 1 + 1) 27 [.int .u64 x.a,.int .u64 x.b,.int .u64 x.c,.int .u64 x.d] = some ls:=by
  obtain ⟨h1,h2,h3,h4⟩:=h
  refine kl_struct Tryz.underlying27 (by kernel_rfl) (by kernel_rfl) ?_
  have e : Tryz.prog.cellsOf 25 = 1:=by kernel_rfl
  intro f hf
  simp only [List.mem_cons,List.not_mem_nil,or_false] at hf
  rcases hf with rfl | rfl | rfl | rfl <;> simp only [e,List.drop_succ_cons,List.drop_zero,List.take_succ_cons,List.take_zero] <;> exact ⟨_,kl_word Tryz.underlying25 d (u64_wf (by assumption))⟩
theorem pt_lits {p : Pt} (h : p.ok) (d : Nat) : ∃ ls,Tryz.prog.keyLits (d + 1 + 1 + 1) 29 ((Pt.cells p).map rv) = some ls:=by
  obtain ⟨h1,h2,h3⟩:=h
  refine kl_struct Tryz.underlying29 (by kernel_rfl) (by kernel_rfl) ?_
  have e : Tryz.prog.cellsOf 27 = 4:=by kernel_rfl
  intro f hf
  simp only [List.mem_cons,List.not_mem_nil,or_false] at hf
  rcases hf with rfl | rfl | rfl <;> simp only [e,Pt.cells,List.map_cons,List.map_nil,rv,List.drop_succ_cons,List.drop_zero,List.take_succ_cons,List.take_zero] <;> exact w4_lits (by assumption) d
theorem keyG : KeyT Tryz.prog 29 okG kvG:=by
  refine ⟨deep_law (m:=4) (by omega) (by kernel_rfl) (by kernel_rfl) (by rw [Tryz.underlying29]),fun g u _ hu=>?_,fun g u v h1 h2=>?_,fun g k u h1 h2=>?_⟩
  · have hu':=pv_agg rfl hu
    obtain ⟨ls,hls⟩:=pt_lits g.2.1 (Tryz.prog.types.size - 2)
    have hs : Tryz.prog.types.size - 2 + 1 + 1 + 1 = Tryz.prog.types.size + 1:=by kernel_rfl
    rw [hs] at hls
    refine ⟨.string (keyBytes ls),?_⟩
    have e1 : Tryz.prog.keyType 29 = true:=by kernel_rfl
    have e2 : (Value.agg ((Pt.cells g.1).map rv).toArray).formed Tryz.prog 29 = true:=by kernel_rfl
    rw [hu']
    unfold keyOf
    rw [Tryz.underlying29]
    simp only [e1,e2,Bool.and_self,if_true,Value.cells]
    rw [hls]; rfl
  · rw [pv_agg rfl h1,pv_agg rfl h2]
  · have:=(pv_agg rfl h1).symm.trans (pv_agg rfl h2)
    simp only [Value.agg.injEq] at this
    exact Subtype.ext (pt_rv_inj (by simpa using congrArg Array.toList this))
theorem zvB : zv1 Tryz.prog 4 (.bool false):=zv1_of (z:=.bool false) (by kernel_rfl) (fun _ _ _=>rfl)
theorem unM : Tryz.prog.underlying 235 = some (.map 29 4):=Tryz.underlying235
theorem zoM : zOf Tryz.prog 235 = some [.junk]:=by kernel_rfl
theorem szM : szOf Tryz.prog 235 = some 1:=by kernel_rfl
theorem agM : aggT Tryz.prog 235 = some false:=by kernel_rfl

section
attribute [local simp] idf_numS cells_numS numS_fold idf_numI cells_numI numI_fold Pt.cells
set_option maxHeartbeats 4000000 in
theorem add_mc (A : List GP) (g : GP) (m mid pid did : Nat) (HP : Heap) (nx : Nat) (M : MS GP) (hm : HP mid = some (1,[[.raw (.map (some m))]])) (hp : HP pid = some (1,[[.osl did 0 A.length]])) (hd : HP did = some (12,A.map cellsG)) (x1 : mid < nx) (x2 : pid < nx) (x3 : did < nx) (n1 : mid ≠ pid) (n2 : did ≠ pid) (n3 : did ≠ mid) (hM : M m = some (memF A)) (hA : A.length ≤ 1048576) : MCall okG kvG Tryz.prog 201 [.agg (Pt.cells g.1),.ptr mid 0 0,.ptr pid 0 0] HP nx M (fun r H' nx' M'=>r = .tup [] ∧ nx ≤ nx' ∧ H' mid = some (1,[[.raw (.map (some m))]]) ∧ (∃ d',d' < nx' ∧ d' ≠ mid ∧ d' ≠ pid ∧ H' pid = some (1,[[.osl d' 0 (addP A g).length]]) ∧ H' d' = some (12,(addP A g).map cellsG)) ∧ M' m = some (memF (addP A g))):=by
 refine .b Tryz.func201 14 fun K hK=>?_
 refine .q ?_
 refine .sq fun K2 hK2=>?_
 refine .region ?_
 refine .k 2 ?_
 refine .e ?_ (by simp (disch:=first|omega|(simp only[ln];omega)) [hm,hp,hd,szM,agM]; rfl)
 refine .lookup (a:=g) keyG unM zvB rfl (hm:=by simp (disch:=omega) [hm,hp,hd]) (hk:=by simp (disch:=omega) [kvG,Pt.cells]) rfl trivial (by simp) rfl (by simp) hM ?_
 simp only [Bool.false_eq_true,if_false,memF_get]
 refine .k 1 ?_
 refine .e ?_ (by simp (disch:=first|omega|(simp only[ln];omega)) [hm,hp,hd,szM,agM]; rfl)
 refine .nil ?_
 refine hK2 _ _ ?_
 refine .c (t:=!decide (g ∈ A)) (fun h7=>?_) (fun h7=>?_)
 ·try simp only[dc]at h7
  have hg : ¬ g ∈ A:=by simpa using h7
  have hN:=addP_new hg
  have hc1 : (A.length + 1) * 96 ≤ 140737488355328:=by omega
  have hc2 : A.length ≤ 9223372036854775806:=by omega
  have hlm : (A.map cellsG).length = A.length:=List.length_map _
  have htk : List.take A.length (A.map cellsG) = A.map cellsG:=List.take_of_length_le (Nat.le_of_eq hlm)
  have hap : A.map cellsG ++ [Pt.cells g.1] = (A ++ [g]).map cellsG:=by rw [List.map_append]; rfl
  simp only [Pt.cells] at hap
  refine .sq fun K3 hK3=>?_
  refine .region ?_
  refine .k 2 ?_
  refine .e ?_ (by simp (disch:=first|omega|(simp only[ln];omega)) [hm,hp,hd,szM,agM]; rfl)
  refine .update (a:=g) (x:=.bool true) keyG unM rfl (hm:=by simp (disch:=omega) [hm,hp,hd]) (hk:=by simp (disch:=omega) [kvG,Pt.cells]) rfl trivial rfl rfl (by simp) rfl hM ?_
  refine .nil ?_
  refine hK3 _ _ ?_
  refine .up ?_
  refine .region ?_
  refine .k 3 ?_ (by simp (disch:=first|omega|(simp only[ln];omega)) [List.take_succ_cons,List.take_zero,hm,hp,hd]; rfl)
  refine AOPS.opapp (by simp (disch:=first|omega|(simp only[ln];omega)) [opApp.eq_def,aSrc_isl,aSrc_osl,aSrc_nsl,aSrc_int,wd_app,wd_app2,if_pos,wd_append,wd_take,wd_drop,List.nil_append,hm,hp,hd,hc1,hc2,hlm,htk,hap,src_Wd' (P:=Tryz.prog) elT188]; first | rfl | exact ⟨rfl,rfl⟩ | exact ⟨rfl,rfl,rfl⟩) (by simp) (by simp) ?_
  simp only [puts_some,hdrop]
  refine .e ?_ (by simp (disch:=first|omega|(simp only[ln];omega)) [hm,hp,hd]; rfl)
  exact hK _ _ _ _ _ _ trivial (Fin.m) (by
    refine ⟨rfl,?_,?_,⟨nx + 1 + 1,?_,?_,?_,?_,?_⟩,?_⟩ <;> first|omega|(simp (disch:=omega) [hm,hp,hd,hN,hap,hlm];done)|(simp;omega)|(rw [hN]; simp [mupd,fupd_mem]))
 ·try simp only[dc]at h7
  have hg : g ∈ A:=by simpa using h7
  have hN:=addP_in hg
  refine .skip ?_
  exact hK _ _ _ _ _ _ trivial (Fin.m) (by
    rw [hN]
    refine ⟨rfl,?_,?_,⟨did,?_,?_,?_,?_,?_⟩,?_⟩ <;> first|omega|(simp (disch:=omega) [hm,hp,hd,hM];done)|assumption|(simp;omega))
end

end Go.Proofs.YtaibemhdfhchfaaGreat

/- Walks: the hits of right segments. -/
namespace Go.Proofs.YtaibemhdfhchfaaGreat
open Go Go.RowKit
set_option linter.unusedSimpArgs false
set_option linter.unusedVariables false
set_option maxRecDepth 100000
attribute [local simp] szT2 byT2 agT2 unT2 zoT2 szT3 byT3 agT3 unT3 zoT3 szT24 byT24 agT24 elT24 unT24 zoT24 szT27 byT27 agT27 flT27 fdT27_0 fdT27_1 fdT27_2 fdT27_3 zoT27 szT29 byT29 agT29 flT29 fdT29_0 fdT29_1 fdT29_2 zoT29 szT32 byT32 agT32 elT32 unT32 zoT32 szT38 byT38 agT38 flT38 fdT38_0 fdT38_1 zoT38 szT40 byT40 agT40 flT40 fdT40_0 fdT40_1 zoT40 szT54 byT54 agT54 elT54 unT54 zoT54 szT60 byT60 agT60 flT60 fdT60_0 fdT60_1 zoT60 szT188 byT188 agT188 elT188 unT188 zoT188 szT235 byT235 agT235 unT235 zoT235

theorem hitP_len (L : List Sg) : (hitP L).length = (ded (seqM L L.length)).length:=((List.perm_ext_iff_of_nodup (insS_nodup _) (ded_nodup _)).2 fun q=>by rw [insS_mem,ded_mem]).length_eq
theorem srt_hits (L : List Sg) : rwA (fun x : GP=>Pt.cells x.1) (Sort.sort (ltc cmH) (ded (seqM L L.length)).toArray) = (hitP L).map cellsG:=by
  unfold rwA
  rw [show Sort.sort (ltc cmH) = Sort.sort ltH from rfl,ded_sort]; rfl
theorem avCM (g : Option Nat) : avCells (.raw (.map g)) = some [.raw (.map g)]:=rfl
theorem avOM (g : Option Nat) : avOne (.raw (.map g)) = true:=rfl
theorem seqM_step (L : List Sg) (i : Nat) : ded (seqM L i ++ [toG (ptS (gq L i).a)] ++ [toG (ptS (gq L i).b)] ++ rowM L i i) = ded (seqM L (i + 1)):=rfl
theorem rowM_yes {L : List Sg} {i k : Nat} (h : (meetI (gq L i) (gq L k)).1 = 1) (A : List GP) : ded (A ++ rowM L i (k + 1)) = addP (ded (A ++ rowM L i k)) (toG (meetI (gq L i) (gq L k)).2.1):=by
  rw [← ded_snoc,rowM,if_pos h,List.append_assoc]
theorem rowM_no {L : List Sg} {i k : Nat} (h : ¬ (meetI (gq L i) (gq L k)).1 = 1) (A : List GP) : ded (A ++ rowM L i (k + 1)) = ded (A ++ rowM L i k):=by
  rw [rowM,if_neg h,List.append_nil]
theorem idf_hitR (L : List Sg) : idf (.isl (hitR L)):=by
  simp only [idf,idfLL_iff,hitR,List.mem_map]
  rintro x ⟨g,_,rfl⟩
  simp [hitC,idfL,Pt.cells,idf,idf_Wd']
theorem ded_b {L : List Sg} (hl : L.length ≤ 40) {n : Nat} (hn : n ≤ L.length) : (ded (seqM L n)).length ≤ 1680:=by
  have h1:=ded_len (seqM L n)
  have h2:=seqM_len L n
  have h3 : n * (n + 2) ≤ 40 * 42:=Nat.mul_le_mul (by omega) (by omega)
  omega
theorem dedr_b {L : List Sg} (hl : L.length ≤ 40) {n k : Nat} (hn : n < L.length) (hk : k ≤ n) (a b : GP) : (ded (seqM L n ++ [a] ++ [b] ++ rowM L n k)).length ≤ 1722:=by
  have h1:=ded_len (seqM L n ++ [a] ++ [b] ++ rowM L n k)
  have h2:=seqM_len L n
  have h4:=rowM_len L n k
  have h3 : n * (n + 2) ≤ 40 * 42:=Nat.mul_le_mul (by omega) (by omega)
  simp only [List.length_append,List.length_cons,List.length_nil] at h1
  omega

section
attribute [local simp] idf_numS cells_numS numS_fold idf_numI cells_numI numI_fold Pt.av Pt.cells
set_option maxHeartbeats 1000000 in
theorem cmpH_fc (p q : GP) : FC Tryz.prog 203 [.agg (Pt.cells p.1),.agg (Pt.cells q.1)] (.int .i64 (cmH p q)):=by
 refine .b Tryz.func203 8 (fun nx K hK=>?_) (hi:=by simp [idfL,idf,idfLL_iff,Sg.cells,Pt.av,Pt.cells])
 refine .q ?_
 refine .sq fun K2 hK2=>?_
 refine .region ?_
 refine .kf 2 (cmpPoints_fc p.1 q.1 p.2.1 q.2.1) hb123 ?_
 refine .e ?_
 refine hK2 _ ?_
 refine .ret ?_
 exact hK _ _ _ _ trivial (Fin.m)
end
section
attribute [local simp] idf_numS cells_numS numS_fold idf_numI cells_numI numI_fold Sp.av Sp.cells Sg.av Sg.cells Pt.av Pt.cells
end

end Go.Proofs.YtaibemhdfhchfaaGreat

/- Walks: drawn rows of up to seven segments; is a number in a row?; hits told. -/
namespace Go.Proofs.YtaibemhdfhchfaaGreat
open Go Go.RowKit
set_option linter.unusedSimpArgs false
set_option linter.unusedVariables false
set_option maxRecDepth 100000
attribute [local simp] szT2 byT2 agT2 unT2 zoT2 szT3 byT3 agT3 unT3 zoT3 szT24 byT24 agT24 elT24 unT24 zoT24 szT32 byT32 agT32 elT32 unT32 zoT32 szT38 byT38 agT38 flT38 fdT38_0 fdT38_1 zoT38 szT40 byT40 agT40 flT40 fdT40_0 fdT40_1 zoT40

section
attribute [local simp] idf_numS cells_numS numS_fold idf_numI cells_numI numI_fold Sp.av Sp.cells Sg.av Sg.cells
end
section
attribute [local simp] Sp.av Sp.cells Sg.av Sg.cells
end
section
attribute [local simp] idf_numS cells_numS numS_fold idf_numI cells_numI numI_fold Sp.av Sp.cells Sg.av Sg.cells
set_option maxHeartbeats 1000000 in
theorem hitsOf_no (L : List Sg) (hl : L.length ≤ 1099511627776) (hz : ¬ sgF L = 0) : FC Tryz.prog 32 [.isl (L.map Sg.cells)] (.tup [.nsl,.bool false]):=by
 have hd : decide (sgF L = 0) = false:=decide_eq_false hz
 refine .b Tryz.func32 9 (fun nx K hK=>?_) (hi:=by simp [idfL,idf,idfLL_iff,Sg.cells,Pt.av,Pt.cells])
 refine .q ?_
 refine .sq fun K2 hK2=>?_
 refine .sq fun K3 hK3=>?_
 refine .region ?_
 refine .kf 1 (areSegs_fc L hl) hb75 ?_ (by simp (disch:=first|omega|(simp only[ln];omega)) [List.take_succ_cons,List.take_zero,hd]; rfl) (ha:=by simp (disch:=first|omega|(simp only[ln];omega)) [idf_Wd',hd])
 refine .e ?_ (by simp (disch:=first|omega|(simp only[ln];omega)) [hd]; rfl)
 refine hK3 _ ?_
 refine .c (t:=true) (fun h6=>?_) (fun h6=>?_)
 ·try simp only[dc]at h6
  refine .q ?_
  refine .ret ?_
  exact hK _ _ _ _ trivial ((Fin.mk (by simp (disch:=omega) [aRes,aResL,aRes1]; try rfl)))
 ·simp at h6
end

end Go.Proofs.YtaibemhdfhchfaaGreat

/- Walks: FnPairs, walked. -/
namespace Go.Proofs.YtaibemhdfhchfaaGreat
open Go Go.RowKit
set_option linter.unusedSimpArgs false
set_option linter.unusedVariables false
set_option maxRecDepth 100000
attribute [local simp] szT2 byT2 agT2 unT2 zoT2 szT3 byT3 agT3 unT3 zoT3 szT4 byT4 agT4 unT4 zoT4 szT24 byT24 agT24 elT24 unT24 zoT24 szT27 byT27 agT27 flT27 fdT27_0 fdT27_1 fdT27_2 fdT27_3 zoT27 szT29 byT29 agT29 flT29 fdT29_0 fdT29_1 fdT29_2 zoT29 szT32 byT32 agT32 elT32 unT32 zoT32 szT38 byT38 agT38 flT38 fdT38_0 fdT38_1 zoT38 szT40 byT40 agT40 flT40 fdT40_0 fdT40_1 zoT40 szT51 byT51 agT51 elT51 unT51 zoT51 szT54 byT54 agT54 elT54 unT54 zoT54 szT60 byT60 agT60 flT60 fdT60_0 fdT60_1 zoT60 szT62 byT62 agT62 flT62 fdT62_0 fdT62_1 zoT62

theorem hitR_len (L : List Sg) : (hitR L).length = (hitP L).length:=List.length_map _
theorem onL_len (L : List Sg) (p : Pt) : (onL L p).length ≤ L.length:=onN_len L p _
section
attribute [local simp] idf_numS cells_numS numS_fold idf_numI cells_numI numI_fold Sp.av Sp.cells Sg.av Sg.cells Pt.av Pt.cells
end

end Go.Proofs.YtaibemhdfhchfaaGreat

/- Walks: hits of the reference: points put in order. -/
namespace Go.Proofs.YtaibemhdfhchfaaGreat
open Go Go.RowKit
set_option linter.unusedSimpArgs false
set_option linter.unusedVariables false
set_option maxRecDepth 100000
attribute [local simp] szT2 byT2 agT2 unT2 zoT2 szT3 byT3 agT3 unT3 zoT3 szT24 byT24 agT24 elT24 unT24 zoT24 szT32 byT32 agT32 elT32 unT32 zoT32 szT38 byT38 agT38 flT38 fdT38_0 fdT38_1 zoT38 szT40 byT40 agT40 flT40 fdT40_0 fdT40_1 zoT40 szT127 byT127 agT127 flT127 fdT127_0 fdT127_1 zoT127 szT129 byT129 agT129 flT129 fdT129_0 fdT129_1 fdT129_2 zoT129 szT163 byT163 agT163 elT163 unT163 zoT163

theorem l4V_one {u v : Sg} (gu : u.good = true) (gv : v.good = true) (h : (meetI u v).1 = 1) : l4V u v = .tup [.int .i64 1,l3A (meetI u v).2.1.x.v (meetI u v).2.1.y.v (meetI u v).2.1.w.v,z3]:=by
  have hg:=(meet_one gu gv h).1
  rw [meet_eq gu gv] at h hg ⊢
  unfold l4V
  unfold meetS linP at h hg ⊢
  by_cases h0 : crs u.a u.b v.a = 0 ∧ crs u.a u.b v.b = 0
  · rw [if_pos h0] at h hg ⊢
    rw [if_pos h0]
    split at h
    · simp at h
    · rename_i h3
      split at h
      · rename_i h4
        rw [if_neg h3,if_pos h4,if_neg h3,if_pos h4]
        obtain ⟨v1,v2,v3⟩:=ptS_v (low_good gu gv : (lowS u v).good = true)
        rw [v1,v2,v3]
      · simp at h
  · rw [if_neg h0] at h hg ⊢
    rw [if_neg h0]
    by_cases hw : noWay u v = true
    · rw [if_pos hw] at h; simp at h
    · rw [if_neg hw] at h hg ⊢
      rw [if_neg hw]
      have e : mkP (wayX2 u v) (wayY2 u v) (denS u v) = pt3 (nX u v) (nY u v) (nW u v):=by unfold mkP; rw [if_neg (den_ne gu gv h0 hw)]; rfl
      simp only [e] at hg ⊢
      obtain ⟨v1,v2,v3⟩:=pt3_val hg
      rw [v1,v2,v3]
theorem l3CmpG (a p : GP) : FC Tryz.prog 130 [l3A a.1.x.v a.1.y.v a.1.w.v,l3A p.1.x.v p.1.y.v p.1.w.v] (.int .i64 (cmH a p)):=l3Cmp_fc a.1 p.1 a.2.1 p.2.1
theorem l3PointG (g : GP) : FC Tryz.prog 135 [l3A g.1.x.v g.1.y.v g.1.w.v] (.tup [.agg (Pt.cells g.1),.bool true]):=by
  have h:=l3Point_fc g.1.x.v g.1.y.v g.1.w.v (W4.bg g.2.1.1) (W4.bg g.2.1.2.1) (W4.bg g.2.1.2.2) (by omega)
  rw [pt3_self g.2.1 g.2.2,good_sm g.2.2] at h; exact h
theorem l3SpotG {p : Sp} (gp : p.good = true) {g : GP} (hg : g.1 = ptS p) : FC Tryz.prog 93 [.agg [.int .i64 p.x,.int .i64 p.y]] (l3A g.1.x.v g.1.y.v g.1.w.v):=by
  obtain ⟨v1,v2,v3⟩:=ptS_v gp
  have pb:=Sp.b gp
  rw [hg,v1,v2,v3]
  exact l3Spot_fc p.x p.y (by omega) (by omega) (by omega) (by omega)
theorem l4OnG {s : Sg} (gs : s.good = true) (g : GP) : FC Tryz.prog 199 [.agg [.int .i64 s.a.x,.int .i64 s.a.y,.int .i64 s.b.x,.int .i64 s.b.y],l3A g.1.x.v g.1.y.v g.1.w.v] (.bool (onF s g.1)):=by
  have h:=l4On_fc s.a s.b (good_a gs) (good_b gs) g.1 g.2.1
  rw [bt_on gs] at h; exact h
theorem slc_row {P : Program} {s : St} {t el : TypeId} {z : Nat} {es : List (List AV)} {lo hi : Option AV} {a b : Nat} (he : elOf P t = some el) (hz : szOf P el = some z) (hes : ∀ c ∈ es,c.length = z) (h1 : bnd lo 0 = some a) (h2 : bnd hi es.length = some b) (h3 : a ≤ b) (h4 : b ≤ es.length) : aSlc P s t (.isl es) lo hi = some (.isl ((es.take b).drop a)):=by
  simp only [aSlc,he,h1,h2,hz]
  rw [if_pos ⟨h3,h4,rfl,fun c hc=>by rw [hes c hc]⟩]
theorem cellS_one (g : GP) : (cellS g).length = 6 ∧ ∀ x ∈ cellS g,avOne x = true:=⟨rfl,by intro x hx; simp only [cellS,l3C,List.mem_cons,List.not_mem_nil,or_false] at hx; rcases hx with rfl | rfl | rfl | rfl | rfl | rfl <;> rfl⟩
theorem rowS_one (A : List GP) : ∀ c ∈ A.map cellS,c.length = 6 ∧ ∀ x ∈ c,avOne x = true:=fun c hc=>by
  obtain ⟨g,_,rfl⟩:=List.mem_map.1 hc; exact cellS_one g
theorem idf_rowS (A : List GP) : idf (.isl (A.map cellS)):=by
  simp only [idf,idfLL_iff,List.mem_map]
  rintro x ⟨g,_,rfl⟩
  simp [cellS,l3C,idfL,idf,idf_Wd']
theorem rowS_yes {L : List Sg} {i k : Nat} (h : (meetI (gq L i) (gq L k)).1 = 1) (A : List GP) : insS (A ++ rowM L i (k + 1)) = insU (insS (A ++ rowM L i k)) (toG (meetI (gq L i) (gq L k)).2.1):=by
  rw [← insS_snoc,rowM,if_pos h,List.append_assoc]
theorem rowS_no {L : List Sg} {i k : Nat} (h : ¬ (meetI (gq L i) (gq L k)).1 = 1) (A : List GP) : insS (A ++ rowM L i (k + 1)) = insS (A ++ rowM L i k):=by
  rw [rowM,if_neg h,List.append_nil]
theorem seqS_step (L : List Sg) (i : Nat) : insS (seqM L i ++ [toG (ptS (gq L i).a)] ++ [toG (ptS (gq L i).b)] ++ rowM L i i) = insS (seqM L (i + 1)):=rfl
theorem ins_b {L : List Sg} (hl : L.length ≤ 40) {n : Nat} (hn : n ≤ L.length) : (insS (seqM L n)).length ≤ 1680:=by
  have h1:=insS_len (seqM L n)
  have h2:=seqM_len L n
  have h3 : n * (n + 2) ≤ 40 * 42:=Nat.mul_le_mul (by omega) (by omega)
  omega
theorem inr_b {L : List Sg} (hl : L.length ≤ 40) {n k : Nat} (hn : n < L.length) (hk : k ≤ n) (a b : GP) : (insS (seqM L n ++ [a] ++ [b] ++ rowM L n k)).length ≤ 1722:=by
  have h1:=insS_len (seqM L n ++ [a] ++ [b] ++ rowM L n k)
  have h2:=seqM_len L n
  have h4:=rowM_len L n k
  have h3 : n * (n + 2) ≤ 40 * 42:=Nat.mul_le_mul (by omega) (by omega)
  simp only [List.length_append,List.length_cons,List.length_nil] at h1
  omega
theorem idf_l3A (x y w : Int) : idf (l3A x y w):=by simp [l3A,l3C,idf,idfL,idf_Wd']

section
attribute [local simp] idf_numS cells_numS numS_fold idf_numI cells_numI numI_fold l3A l3C
set_option maxHeartbeats 8000000 in
theorem l8Put_fc (A : List GP) (p : GP) (hl : A.length ≤ 1048576) : FC Tryz.prog 210 [.isl (A.map cellS),l3A p.1.x.v p.1.y.v p.1.w.v] (.isl ((insU A p).map cellS)):=by
 refine .b Tryz.func210 50 (fun nx K hK=>?_) (hi:=⟨idf_rowS A,idf_l3A _ _ _,trivial⟩) (hr:=idf_rowS _)
 refine .q ?_
 refine AWP.frz1 3 nx 6 [(l3C p.1.x.v p.1.y.v p.1.w.v)] (.ip (l3C p.1.x.v p.1.y.v p.1.w.v)) (by simp (disch:=omega) [l3C]) (by simp (disch:=omega) [fz,l3C]) ?_
 refine .q ?_
 refine .sq fun K3 hK3=>?_
 refine .block ?_
 
 refine .loop (fun N s=>∃ j : Nat,N = A.length - j ∧ j ≤ A.length ∧ (∀ q,q < j → ∃ y,A[q]? = some y ∧ ltH y p = true) ∧ s.env 0 = .isl (A.map cellS) ∧ s.env 3 = .ip (l3C p.1.x.v p.1.y.v p.1.w.v) ∧ s.env 5 = .int .i64 (j : Int) ∧ s.nt = 50) (A.length) (by refine ⟨0,by omega,by omega,fun q h=>by omega,?_,?_,?_,rfl⟩ <;> first|(simp (disch:=omega);done)|omega|(simp;done)|(simp;omega)) ?_
 rintro N ⟨e,H,mm,nt⟩ ⟨j,rfl,hj,hq,g0,g3,g5,rfl⟩
 simp only [] at g0 g3 g5
 refine .sq fun K4 hK4=>?_
 refine .sq fun K5 hK5=>?_
 by_cases hjm : j < A.length
 ·have hge0:=getD_at (l:=A) (x0:=default) hjm
  obtain ⟨a,ha⟩ : ∃ a,a = A.getD j default:=⟨_,rfl⟩
  rw [← ha] at hge0
  have hge:=hge0
  have hat : (A.map cellS)[j]? = some (cellS a):=by rw [List.getElem?_map,hge]; rfl
  have hae : ∀ h : j < (A.map cellS).length,(A.map cellS)[j] = cellS a:=fun h=>by rw [List.getElem?_eq_getElem h] at hat; simpa using hat
  simp only [cellS,l3C] at hat hae
  have hcm:=l3CmpG a p
  refine .d 13 ?_
  refine .k 10 (fun fs6 hfs6=>?_) (by simp (disch:=first|omega|(simp only[ln];omega)) [runDf.eq_def,runF1,runF2,stepF.eq_def,updo.eq_def,hupo.eq_def,opSto1.eq_def,List.take_succ_cons,List.take_zero,if_pos,g0,g3,g5,hat,hae,hjm,List.length_map]; rfl)
  refine .f hcm hb130 ?_ (ha:=by simp (disch:=first|omega|(simp only[ln];omega)) [idf_Wd',if_pos,g0,g3,g5,hat,hae,hjm,List.length_map])
  refine .k 2 (fun fs7 hfs7=>?_) (by simp (disch:=first|omega|(simp only[ln];omega)) [runDf.eq_def,runF1,runF2,stepF.eq_def,updo.eq_def,hupo.eq_def,opSto1.eq_def,List.take_succ_cons,List.take_zero,if_pos,g0,g3,g5,hat,hae,hjm,List.length_map]; rfl)
  refine .r 13 (by simp only[ln,hfs6,hfs7];omega) ?_ (by simp (disch:=first|omega|(simp only[ln];omega)) [runDf.eq_def,runF1,runF2,stepF.eq_def,updo.eq_def,hupo.eq_def,opSto1.eq_def,if_pos,g0,g3,g5,hat,hae,hjm,List.length_map]; rfl)
  refine hK5 _ ?_
  refine .c (t:=decide (cmH a p < 0)) (fun h19=>?_) (fun h19=>?_)
  ·try simp only[dc]at h19
   have hlt:=ltH_iff.2 h19
   refine .skip ?_
   refine hK4 _ ?_
   refine .block ?_
   refine .r ?_ (by simp (disch:=first|omega|(simp only[ln];omega)) [g5]; rfl)
   refine ⟨A.length - (j + 1),by omega,j + 1,rfl,by omega,fun q hq'=>by
     rcases Nat.lt_or_ge q j with h | h
     · exact hq q h
     · rw [show q = j by omega]; exact ⟨_,hge,hlt⟩,?_,?_,?_,rfl⟩ <;> first|(simp (disch:=omega) [g0,g3,g5];done)|omega|(simp;done)|(simp;omega)
  ·try simp only[dc]at h19
   have hins:=insK_at hq hge (ltH_not.2 (by omega))
   refine .exit ?_
   refine hK3 _ ?_
   refine .sq fun K8 hK8=>?_
   refine .sq fun K9 hK9=>?_
   by_cases hz0 : cmH a p = 0
   ·have d0 : (cmH a p == 0) = true:=by simpa using hz0
    refine .d 13 ?_
    refine .k 10 (fun fs10 hfs10=>?_) (by simp (disch:=first|omega|(simp only[ln];omega)) [runDf.eq_def,runF1,runF2,stepF.eq_def,updo.eq_def,hupo.eq_def,opSto1.eq_def,List.take_succ_cons,List.take_zero,if_pos,g0,g3,g5,hat,hae,hjm,List.length_map,d0]; rfl)
    refine .f hcm hb130 ?_ (ha:=by simp (disch:=first|omega|(simp only[ln];omega)) [idf_Wd',if_pos,g0,g3,g5,hat,hae,hjm,List.length_map,d0])
    refine .k 2 (fun fs11 hfs11=>?_) (by simp (disch:=first|omega|(simp only[ln];omega)) [runDf.eq_def,runF1,runF2,stepF.eq_def,updo.eq_def,hupo.eq_def,opSto1.eq_def,List.take_succ_cons,List.take_zero,if_pos,g0,g3,g5,hat,hae,hjm,List.length_map,d0]; rfl)
    refine .r 13 (by simp only[ln,hfs10,hfs11];omega) ?_ (by simp (disch:=first|omega|(simp only[ln];omega)) [runDf.eq_def,runF1,runF2,stepF.eq_def,updo.eq_def,hupo.eq_def,opSto1.eq_def,if_pos,g0,g3,g5,hat,hae,hjm,List.length_map,d0]; rfl)
    refine hK9 _ ?_
    refine .c (t:=true) (fun h34=>?_) (fun h34=>?_)
    ·try simp only[dc]at h34
     refine .q ?_ (by simp (disch:=first|omega|(simp only[ln];omega)) [g0]; rfl)
     refine .ret ?_
     exact hK _ _ _ _ trivial ((Fin.mk (r:=.isl (A.map cellS)) (by simp (disch:=omega) [aRes,aResL,aRes1]; try rfl)).cast (by rw [insU_eq hins hjm (by rw [← ha]; exact hz0)]))
    ·simp at h34
   ·have d0 : (cmH a p == 0) = false:=by simpa using hz0
    have hnz : ¬ (j < A.length ∧ cmH (A.getD j default) p = 0):=fun h=>hz0 (by rw [ha]; exact h.2)
    refine .d 13 ?_
    refine .k 10 (fun fs13 hfs13=>?_) (by simp (disch:=first|omega|(simp only[ln];omega)) [runDf.eq_def,runF1,runF2,stepF.eq_def,updo.eq_def,hupo.eq_def,opSto1.eq_def,List.take_succ_cons,List.take_zero,if_pos,g0,g3,g5,hat,hae,hjm,List.length_map,d0]; rfl)
    refine .f hcm hb130 ?_ (ha:=by simp (disch:=first|omega|(simp only[ln];omega)) [idf_Wd',if_pos,g0,g3,g5,hat,hae,hjm,List.length_map,d0])
    refine .k 2 (fun fs14 hfs14=>?_) (by simp (disch:=first|omega|(simp only[ln];omega)) [runDf.eq_def,runF1,runF2,stepF.eq_def,updo.eq_def,hupo.eq_def,opSto1.eq_def,List.take_succ_cons,List.take_zero,if_pos,g0,g3,g5,hat,hae,hjm,List.length_map,d0]; rfl)
    refine .r 13 (by simp only[ln,hfs13,hfs14];omega) ?_ (by simp (disch:=first|omega|(simp only[ln];omega)) [runDf.eq_def,runF1,runF2,stepF.eq_def,updo.eq_def,hupo.eq_def,opSto1.eq_def,if_pos,g0,g3,g5,hat,hae,hjm,List.length_map,d0]; rfl)
    refine hK9 _ ?_
    refine .c (t:=false) (fun h34=>?_) (fun h34=>?_)
    ·simp at h34
    ·try simp only[dc]at h34
     have hfin:=insU_ne hins hnz
     have hjl : j ≤ A.length:=by omega
     have hlen : A.length + 1 = (insU A p).length:=by
       have h1:=congrArg List.length hfin
       simp only [List.length_append,List.length_take,List.length_drop,List.length_map,List.length_cons,List.length_nil] at h1
       omega
     have hpl:=rowS_one A
     have hpt : ∀ c ∈ List.take j (A.map cellS),c.length = 6 ∧ ∀ x ∈ c,avOne x = true:=fun c hc=>hpl c (List.mem_of_mem_take hc)
     have hpd : ∀ c ∈ List.drop j (A.map cellS),c.length = 6 ∧ ∀ x ∈ c,avOne x = true:=fun c hc=>hpl c (List.mem_of_mem_drop hc)
     have hb1 : (List.take j (A.map cellS)).length = j:=by rw [List.length_take,List.length_map]; omega
     have hb2 : (List.drop j (A.map cellS)).length = A.length - j:=by rw [List.length_drop,List.length_map]
     have hb3 : List.take (A.length - j) (List.drop j (A.map cellS)) = List.drop j (A.map cellS):=List.take_of_length_le (by omega)
     have hb4 : List.take j (List.take j (A.map cellS)) = List.take j (A.map cellS):=List.take_of_length_le (by omega)
     have hjk2 : j + (A.length - j + 1) = A.length + 1:=by omega
     have hjk : j + 1 + (A.length - j) = A.length + 1:=by omega
     have hs1 : ∀ s : St,aSlc Tryz.prog s 163 (.isl (A.map cellS)) none (some (.int .i64 (j : Int))) = some (.isl (List.take j (A.map cellS))):=fun s=>slc_row (a:=0) (b:=j) elT163 szT129 (fun c hc=>(hpl c hc).1) rfl (by simp [bnd]) (Nat.zero_le _) (by rw [List.length_map]; exact hjl)
     have hs2 : ∀ s : St,aSlc Tryz.prog s 163 (.isl (A.map cellS)) (some (.int .i64 (j : Int))) none = some (.isl (List.drop j (A.map cellS))):=fun s=>by
       have h:=slc_row (P:=Tryz.prog) (s:=s) (t:=163) (es:=A.map cellS) (lo:=some (.int .i64 (j : Int))) (hi:=none) (a:=j) (b:=(A.map cellS).length) elT163 szT129 (fun c hc=>(hpl c hc).1) (by simp [bnd]) rfl (by rw [List.length_map]; exact hjl) (Nat.le_refl _)
       rw [List.take_length] at h; exact h
     simp only [cellS,l3C] at hfin
     have hfin2:=hfin
     rw [List.append_assoc] at hfin2
     simp only [List.cons_append,List.nil_append] at hfin2
     have hb5 : ∀ r : List AV,List.take (j + 1) (List.take j (A.map cellS) ++ [r]) = List.take j (A.map cellS) ++ [r]:=fun r=>List.take_of_length_le (by rw [List.length_append,hb1]; simp)
     refine .skip ?_
     refine hK8 _ ?_
     refine .sq fun K15 hK15=>?_
     refine .region ?_
     refine .k 4 ?_ (by simp (disch:=first|omega|(simp only[ln];omega)) [List.take_succ_cons,List.take_zero,if_pos,g0,g3,g5,hjl,hb1,hb4,hs1,List.length_map,List.drop_zero]; rfl)
     refine AOPS.opapp (by simp (disch:=first|omega|(simp only[ln];omega)) [opApp.eq_def,aSrc_isl,aSrc_osl,aSrc_nsl,aSrc_int,wd_app,wd_app2,if_pos,wd_append,wd_take,wd_drop,List.nil_append,hb1,hb4,hjl,hpt,g0,g3,g5,src_Wd' (P:=Tryz.prog) elT163]; first | rfl | exact ⟨rfl,rfl⟩ | exact ⟨rfl,rfl,rfl⟩) (by simp) (by simp) ?_
     simp only [puts_some,hdrop]
     refine .e ?_ (by simp (disch:=first|omega|(simp only[ln];omega)) [if_pos,g0,g3,g5,hjl,hb1,hb4,hs1,List.length_map,List.drop_zero]; rfl)
     refine hK15 _ ?_
     refine .sq fun K16 hK16=>?_
     refine .region ?_
     refine .k 3 ?_ (by simp (disch:=first|omega|(simp only[ln];omega)) [List.take_succ_cons,List.take_zero,g0,g3,g5]; rfl)
     refine AOPS.opapp (by simp (disch:=first|omega|(simp only[ln];omega)) [opApp.eq_def,aSrc_isl,aSrc_osl,aSrc_nsl,aSrc_int,wd_app,wd_app2,if_pos,wd_append,wd_take,wd_drop,List.nil_append,hb1,hb4,hjl,hb5,hpt,src_Wd' (P:=Tryz.prog) elT163]; first | rfl | exact ⟨rfl,rfl⟩ | exact ⟨rfl,rfl,rfl⟩) (by simp) (by simp) ?_
     simp only [puts_some,hdrop]
     refine .e ?_ (by simp (disch:=first|omega|(simp only[ln];omega)) [g0,g3,g5]; rfl)
     refine hK16 _ ?_
     refine .sq fun K17 hK17=>?_
     refine .region ?_
     refine .k 4 ?_ (by simp (disch:=first|omega|(simp only[ln];omega)) [List.take_succ_cons,List.take_zero,if_pos,g0,g3,g5,hjl,hb2,hb3,hs2,List.length_map]; rfl)
     refine AOPS.opapp (by simp (disch:=first|omega|(simp only[ln];omega)) [opApp.eq_def,aSrc_isl,aSrc_osl,aSrc_nsl,aSrc_int,wd_app,wd_app2,if_pos,wd_append,wd_take,wd_drop,List.nil_append,hb1,hb2,hb3,hb5,hjl,hjk,hpd,hpt,g0,g3,g5,src_Wd' (P:=Tryz.prog) elT163]; first | rfl | exact ⟨rfl,rfl⟩ | exact ⟨rfl,rfl,rfl⟩) (by simp) (by simp) ?_
     simp only [puts_some,hdrop]
     refine .e ?_ (by simp (disch:=first|omega|(simp only[ln];omega)) [if_pos,g0,g3,g5,hjl,hb2,hb3,hs2,List.length_map]; rfl)
     refine hK17 _ ?_
     refine .ret ?_
     exact hK _ _ _ _ trivial (((Fin.mk (r:=.osl (mm + 13 + 13 + 1 + 1 + 1 + 1) 0 (A.length + 1)) (by simp (disch:=omega) [aRes,aResL,aRes1,hjk,hjk2] <;> omega)).freeze (id:=(mm + 13 + 13 + 1 + 1 + 1 + 1)) (z:=6) (es:=(insU A p).map cellS) (by simp (disch:=omega) [hfin,hfin2])).cast (fz_fill cellS (insU A p) hlen))
 ·have hjn : j = A.length:=by omega
  have hins : insK ltH p A = j:=by rw [hjn]; exact insK_end (by rw [← hjn]; exact hq)
  have hnz : ¬ (j < A.length ∧ cmH (A.getD j default) p = 0):=fun h=>hjm h.1
  refine .df 13 ?_ (by simp (disch:=first|omega|(simp only[ln];omega)) [runDf.eq_def,runF1,runF2,stepF.eq_def,updo.eq_def,hupo.eq_def,opSto1.eq_def,if_pos,g0,g3,g5,hjm,List.length_map]; rfl)
  refine hK5 _ ?_
  refine .c (t:=false) (fun h19=>?_) (fun h19=>?_)
  ·simp at h19
  ·try simp only[dc]at h19
   refine .exit ?_
   refine hK3 _ ?_
   refine .sq fun K18 hK18=>?_
   refine .sq fun K19 hK19=>?_
   refine .df 13 ?_ (by simp (disch:=first|omega|(simp only[ln];omega)) [runDf.eq_def,runF1,runF2,stepF.eq_def,updo.eq_def,hupo.eq_def,opSto1.eq_def,if_pos,g0,g3,g5,hjm,List.length_map]; rfl)
   refine hK19 _ ?_
   refine .c (t:=false) (fun h34=>?_) (fun h34=>?_)
   ·simp at h34
   ·try simp only[dc]at h34
    have hfin:=insU_ne hins hnz
    have hjl : j ≤ A.length:=by omega
    have hlen : A.length + 1 = (insU A p).length:=by
      have h1:=congrArg List.length hfin
      simp only [List.length_append,List.length_take,List.length_drop,List.length_map,List.length_cons,List.length_nil] at h1
      omega
    have hpl:=rowS_one A
    have hpt : ∀ c ∈ List.take j (A.map cellS),c.length = 6 ∧ ∀ x ∈ c,avOne x = true:=fun c hc=>hpl c (List.mem_of_mem_take hc)
    have hpd : ∀ c ∈ List.drop j (A.map cellS),c.length = 6 ∧ ∀ x ∈ c,avOne x = true:=fun c hc=>hpl c (List.mem_of_mem_drop hc)
    have hb1 : (List.take j (A.map cellS)).length = j:=by rw [List.length_take,List.length_map]; omega
    have hb2 : (List.drop j (A.map cellS)).length = A.length - j:=by rw [List.length_drop,List.length_map]
    have hb3 : List.take (A.length - j) (List.drop j (A.map cellS)) = List.drop j (A.map cellS):=List.take_of_length_le (by omega)
    have hb4 : List.take j (List.take j (A.map cellS)) = List.take j (A.map cellS):=List.take_of_length_le (by omega)
    have hjk2 : j + (A.length - j + 1) = A.length + 1:=by omega
    have hjk : j + 1 + (A.length - j) = A.length + 1:=by omega
    have hs1 : ∀ s : St,aSlc Tryz.prog s 163 (.isl (A.map cellS)) none (some (.int .i64 (j : Int))) = some (.isl (List.take j (A.map cellS))):=fun s=>slc_row (a:=0) (b:=j) elT163 szT129 (fun c hc=>(hpl c hc).1) rfl (by simp [bnd]) (Nat.zero_le _) (by rw [List.length_map]; exact hjl)
    have hs2 : ∀ s : St,aSlc Tryz.prog s 163 (.isl (A.map cellS)) (some (.int .i64 (j : Int))) none = some (.isl (List.drop j (A.map cellS))):=fun s=>by
      have h:=slc_row (P:=Tryz.prog) (s:=s) (t:=163) (es:=A.map cellS) (lo:=some (.int .i64 (j : Int))) (hi:=none) (a:=j) (b:=(A.map cellS).length) elT163 szT129 (fun c hc=>(hpl c hc).1) (by simp [bnd]) rfl (by rw [List.length_map]; exact hjl) (Nat.le_refl _)
      rw [List.take_length] at h; exact h
    simp only [cellS,l3C] at hfin
    have hfin2:=hfin
    rw [List.append_assoc] at hfin2
    simp only [List.cons_append,List.nil_append] at hfin2
    have hb5 : ∀ r : List AV,List.take (j + 1) (List.take j (A.map cellS) ++ [r]) = List.take j (A.map cellS) ++ [r]:=fun r=>List.take_of_length_le (by rw [List.length_append,hb1]; simp)
    refine .skip ?_
    refine hK18 _ ?_
    refine .sq fun K20 hK20=>?_
    refine .region ?_
    refine .k 4 ?_ (by simp (disch:=first|omega|(simp only[ln];omega)) [List.take_succ_cons,List.take_zero,if_pos,g0,g3,g5,hjl,hb1,hb4,hs1,List.length_map,List.drop_zero]; rfl)
    refine AOPS.opapp (by simp (disch:=first|omega|(simp only[ln];omega)) [opApp.eq_def,aSrc_isl,aSrc_osl,aSrc_nsl,aSrc_int,wd_app,wd_app2,if_pos,wd_append,wd_take,wd_drop,List.nil_append,hb1,hb4,hjl,hpt,g0,g3,g5,src_Wd' (P:=Tryz.prog) elT163]; first | rfl | exact ⟨rfl,rfl⟩ | exact ⟨rfl,rfl,rfl⟩) (by simp) (by simp) ?_
    simp only [puts_some,hdrop]
    refine .e ?_ (by simp (disch:=first|omega|(simp only[ln];omega)) [if_pos,g0,g3,g5,hjl,hb1,hb4,hs1,List.length_map,List.drop_zero]; rfl)
    refine hK20 _ ?_
    refine .sq fun K21 hK21=>?_
    refine .region ?_
    refine .k 3 ?_ (by simp (disch:=first|omega|(simp only[ln];omega)) [List.take_succ_cons,List.take_zero,g0,g3,g5]; rfl)
    refine AOPS.opapp (by simp (disch:=first|omega|(simp only[ln];omega)) [opApp.eq_def,aSrc_isl,aSrc_osl,aSrc_nsl,aSrc_int,wd_app,wd_app2,if_pos,wd_append,wd_take,wd_drop,List.nil_append,hb1,hb4,hjl,hb5,hpt,src_Wd' (P:=Tryz.prog) elT163]; first | rfl | exact ⟨rfl,rfl⟩ | exact ⟨rfl,rfl,rfl⟩) (by simp) (by simp) ?_
    simp only [puts_some,hdrop]
    refine .e ?_ (by simp (disch:=first|omega|(simp only[ln];omega)) [g0,g3,g5]; rfl)
    refine hK21 _ ?_
    refine .sq fun K22 hK22=>?_
    refine .region ?_
    refine .k 4 ?_ (by simp (disch:=first|omega|(simp only[ln];omega)) [List.take_succ_cons,List.take_zero,if_pos,g0,g3,g5,hjl,hb2,hb3,hs2,List.length_map]; rfl)
    refine AOPS.opapp (by simp (disch:=first|omega|(simp only[ln];omega)) [opApp.eq_def,aSrc_isl,aSrc_osl,aSrc_nsl,aSrc_int,wd_app,wd_app2,if_pos,wd_append,wd_take,wd_drop,List.nil_append,hb1,hb2,hb3,hb5,hjl,hjk,hpd,hpt,g0,g3,g5,src_Wd' (P:=Tryz.prog) elT163]; first | rfl | exact ⟨rfl,rfl⟩ | exact ⟨rfl,rfl,rfl⟩) (by simp) (by simp) ?_
    simp only [puts_some,hdrop]
    refine .e ?_ (by simp (disch:=first|omega|(simp only[ln];omega)) [if_pos,g0,g3,g5,hjl,hb2,hb3,hs2,List.length_map]; rfl)
    refine hK22 _ ?_
    refine .ret ?_
    exact hK _ _ _ _ trivial (((Fin.mk (r:=.osl (mm + 13 + 13 + 1 + 1 + 1 + 1) 0 (A.length + 1)) (by simp (disch:=omega) [aRes,aResL,aRes1,hjk,hjk2] <;> omega)).freeze (id:=(mm + 13 + 13 + 1 + 1 + 1 + 1)) (z:=6) (es:=(insU A p).map cellS) (by simp (disch:=omega) [hfin,hfin2])).cast (fz_fill cellS (insU A p) hlen))
end
section
attribute [local simp] idf_numS cells_numS numS_fold idf_numI cells_numI numI_fold Sp.av Sp.cells Sg.av Sg.cells l3A l3C
set_option maxHeartbeats 4000000 in
theorem l8On_own (L : List Sg) (g : GP) (hl : L.length ≤ 1048576) (z2 : ∀ s ∈ L,s.good = true) (nx : Nat) : ACall Tryz.prog 136 [.isl (L.map Sg.cells),l3A g.1.x.v g.1.y.v g.1.w.v] (fun _=>none) nx (own1 nx 1 (wd .i64 (onL L g.1)) (fun id=>.osl id 0 (onL L g.1).length)):=by
 refine .b Tryz.func136 25 fun K hK=>?_
 refine .q ?_
 refine .q ?_
 refine .sq fun K3 hK3=>?_
 refine AWP.frz1 3 nx 6 [(l3C g.1.x.v g.1.y.v g.1.w.v)] (.ip (l3C g.1.x.v g.1.y.v g.1.w.v)) (by simp (disch:=omega) [l3C]) (by simp (disch:=omega) [fz,l3C]) ?_
 refine .q ?_ (by simp (disch:=first|omega|(simp only[ln];omega)) [List.length_map]; rfl)
 refine .block ?_
 
 refine .loop (fun N s=>∃ i : Nat,∃ C : List Int,∃ io : Nat,N = L.length - i ∧ i ≤ L.length ∧ (C = onN L g.1 i) ∧ (nx ≤ io) ∧ s.env 0 = .isl (L.map Sg.cells) ∧ s.env 3 = .ip (l3C g.1.x.v g.1.y.v g.1.w.v) ∧ s.env 5 = .osl io 0 C.length ∧ s.env 6 = .int .i64 (i : Int) ∧ s.heap io = some (1,wd .i64 C) ∧ io < s.nx ∧ s.nt = 25) (L.length) (by refine ⟨0,[],(nx + 1),by omega,by omega,rfl,by omega,?_,?_,?_,?_,?_,?_,rfl⟩ <;> first|(simp (disch:=omega) [wd];done)|omega|(simp;done)|(simp;omega)) ?_
 rintro N ⟨e,H,mm,nt⟩ ⟨i,C,io,rfl,hi,hC,hio,g0,g3,g5,g6,Ho,xo,rfl⟩
 simp only [] at g0 g3 g5 g6 Ho xo
 refine .sq fun K5 hK5=>?_
 refine .q ?_ (by simp (disch:=first|omega|(simp only[ln];omega)) [g0,g6,List.length_map]; rfl)
 refine .c (fun h11=>?_) (fun h11=>?_)
 ·try simp only[dc]at h11
  have hi' : i < L.length:=by omega
  have hat:=gq_get hi'
  obtain ⟨s0,hs0⟩ : ∃ s0,s0 = gq L i:=⟨_,rfl⟩
  have gs:=z2 _ (gq_mem hi')
  rw [← hs0] at gs
  have hat2 : (L.map Sg.cells)[i]? = some (Sg.cells s0):=by rw [List.getElem?_map,hat,hs0]; rfl
  have hae2 : ∀ h : i < (L.map Sg.cells).length,(L.map Sg.cells)[i] = Sg.cells s0:=fun h=>by rw [List.getElem?_eq_getElem h] at hat2; simpa using hat2
  refine .skip ?_
  refine hK5 _ ?_
  refine .sq fun K7 hK7=>?_
  refine .block ?_
  refine .sq fun K8 hK8=>?_
  refine .d 6 ?_
  refine .k 5 (fun fs9 hfs9=>?_) (by simp (disch:=first|omega|(simp only[ln];omega)) [runDf.eq_def,runF1,runF2,stepF.eq_def,updo.eq_def,hupo.eq_def,opSto1.eq_def,List.take_succ_cons,List.take_zero,if_pos,g0,g3,g5,g6,Ho,hat2,hae2,hi',List.length_map]; rfl)
  refine .f (l4OnG gs g) hb199 ?_ (ha:=by simp (disch:=first|omega|(simp only[ln];omega)) [idf_Wd',if_pos,g0,g3,g5,g6,Ho,hat2,hae2,hi',List.length_map])
  refine .r 6 (by simp only[ln,hfs9];omega) ?_ (by simp (disch:=first|omega|(simp only[ln];omega)) [runDf.eq_def,runF1,runF2,stepF.eq_def,updo.eq_def,hupo.eq_def,opSto1.eq_def,if_pos,g0,g3,g5,g6,Ho,hat2,hae2,hi',List.length_map]; rfl)
  refine hK8 _ ?_
  refine .c (t:=onF s0 g.1) (fun h19=>?_) (fun h19=>?_)
  ·try simp only[dc]at h19
   rw [hs0] at h19
   have hC' : C ++ [(i : Int)] = onN L g.1 (i + 1):=by rw [onL_yes h19,hC]
   have hCl:=onN_len L g.1 i
   rw [← hC] at hCl
   have hc1 : (C.length + 1) * 8 ≤ 140737488355328:=by omega
   have hc2 : C.length ≤ 9223372036854775806:=by omega
   have hwl : (wd .i64 C).length = C.length:=List.length_map _
   have htk : List.take C.length (wd .i64 C) = wd .i64 C:=List.take_of_length_le (Nat.le_of_eq hwl)
   refine .region ?_
   refine .k 3 ?_ (by simp (disch:=first|omega|(simp only[ln];omega)) [List.take_succ_cons,List.take_zero,g0,g3,g5,g6,Ho]; rfl)
   refine AOPS.opapp (by simp (disch:=first|omega|(simp only[ln];omega)) [opApp.eq_def,aSrc_isl,aSrc_osl,aSrc_nsl,aSrc_int,wd_app,wd_app2,if_pos,wd_append,wd_take,wd_drop,List.nil_append,hc1,hc2,hwl,htk,Ho,src_Wd' (P:=Tryz.prog) elT32]; first | rfl | exact ⟨rfl,rfl⟩ | exact ⟨rfl,rfl,rfl⟩) (by simp) (by simp) ?_
   simp only [puts_some,hdrop]
   refine .e ?_ (by simp (disch:=first|omega|(simp only[ln];omega)) [g0,g3,g5,g6,Ho]; rfl)
   refine hK7 _ ?_
   refine .r ?_ (by simp (disch:=first|omega|(simp only[ln];omega)) [g6]; rfl)
   refine ⟨L.length - (i + 1),by omega,i + 1,C ++ [(i : Int)],(mm + 6 + 1),rfl,by omega,hC',by first|omega|(simp;omega),?_,?_,?_,?_,?_,?_,rfl⟩ <;> first|(simp (disch:=omega) [wd_append,List.length_append,hwl,htk,g0,g3,g5,g6,Ho];done)|omega|(simp;done)|(simp;omega)
  ·try simp only[dc]at h19
   rw [hs0] at h19
   have hC' : C = onN L g.1 (i + 1):=by rw [onL_no h19]; exact hC
   refine .skip ?_
   refine hK7 _ ?_
   refine .r ?_ (by simp (disch:=first|omega|(simp only[ln];omega)) [g6]; rfl)
   refine ⟨L.length - (i + 1),by omega,i + 1,C,io,rfl,by omega,hC',by omega,?_,?_,?_,?_,?_,?_,rfl⟩ <;> first|(simp (disch:=omega) [g0,g3,g5,g6,Ho];done)|omega|(simp;done)|(simp;omega)
 ·try simp only[dc]at h11
  have hin : i = L.length:=by omega
  subst hin
  have hCs : C = onL L g.1:=hC
  subst hCs
  refine .exit ?_
  refine hK3 _ ?_
  refine .q ?_ (by simp (disch:=first|omega|(simp only[ln];omega)) [g5]; rfl)
  refine .ret ?_
  exact hK _ _ _ _ _ trivial (Fin.own1 (Fin.mk (by simp (disch:=omega) [aRes,aResL,aRes1]; try rfl)) (id:=io) (by simp [Ho])) (⟨io,by first | omega | (simp; done) | (simp; omega),by first | omega | (simp; done) | (simp; omega),rfl,rfl⟩)
set_option maxHeartbeats 8000000 in
theorem l8Points_fc (L : List Sg) (z1 : L.length ≤ 40) (z2 : ∀ s ∈ L,s.good = true) : FC Tryz.prog 134 [.isl (L.map Sg.cells)] (.isl ((hitP L).map cellS)):=by
 refine .b Tryz.func134 56 (fun nx K hK=>?_) (hi:=by simp [idfL,idf,idfLL_iff,Sg.cells,Pt.av,Pt.cells]) (hr:=idf_rowS _)
 refine .q ?_
 refine .q ?_
 refine .sq fun K3 hK3=>?_
 refine AWP.frz1 3 nx 6 [] (.isl []) (by simp (disch:=omega)) (by simp (disch:=omega) [fz]) ?_
 refine .q ?_
 refine .block ?_
 
 refine .loop (fun N s=>∃ i : Nat,∃ A : List GP,N = L.length - i ∧ i ≤ L.length ∧ (A = insS (seqM L i)) ∧ s.env 0 = .isl (L.map Sg.cells) ∧ s.env 3 = .isl (A.map cellS) ∧ s.env 4 = .int .i64 (i : Int) ∧ s.nt = 56) (L.length) (by refine ⟨0,[],by omega,by omega,rfl,?_,?_,?_,rfl⟩ <;> first|(simp (disch:=omega);done)|omega|(simp;done)|(simp;omega)) ?_
 rintro N ⟨e,H,mm,nt⟩ ⟨i,A,rfl,hi,hA,g0,g3,g4,rfl⟩
 simp only [] at g0 g3 g4
 refine .sq fun K5 hK5=>?_
 refine .q ?_ (by simp (disch:=first|omega|(simp only[ln];omega)) [g0,g4,List.length_map]; rfl)
 refine .c (fun h13=>?_) (fun h13=>?_)
 ·try simp only[dc]at h13
  have hi' : i < L.length:=by omega
  have hat:=gq_get hi'
  obtain ⟨s0,hs0⟩ : ∃ s0,s0 = gq L i:=⟨_,rfl⟩
  have gs:=z2 _ (gq_mem hi')
  rw [← hs0] at gs
  have hat2 : (L.map Sg.cells)[i]? = some (Sg.cells s0):=by rw [List.getElem?_map,hat,hs0]; rfl
  have hae2 : ∀ h : i < (L.map Sg.cells).length,(L.map Sg.cells)[i] = Sg.cells s0:=fun h=>by rw [List.getElem?_eq_getElem h] at hat2; simpa using hat2
  have hAb:=ins_b z1 (Nat.le_of_lt hi')
  rw [← hA] at hAb
  obtain ⟨ga,hga⟩ : ∃ g,g = toG (ptS s0.a):=⟨_,rfl⟩
  have vga : ga.1 = ptS s0.a:=by rw [hga]; exact toG_val (pt3_ok _ _ _) (ptS_gd (good_a gs))
  have oga:=l3SpotG (good_a gs) vga
  obtain ⟨gb,hgb⟩ : ∃ g,g = toG (ptS s0.b):=⟨_,rfl⟩
  have vgb : gb.1 = ptS s0.b:=by rw [hgb]; exact toG_val (pt3_ok _ _ _) (ptS_gd (good_b gs))
  have ogb:=l3SpotG (good_b gs) vgb
  have hA1:=insU_len A ga
  refine .skip ?_
  refine hK5 _ ?_
  refine .sq fun K7 hK7=>?_
  refine .block ?_
  refine .sq fun K8 hK8=>?_
  refine .region ?_
  refine .kf 6 oga hb93 ?_ (by simp (disch:=first|omega|(simp only[ln];omega)) [List.take_succ_cons,List.take_zero,if_pos,g0,g3,g4,hat2,hae2,hi',List.length_map]; rfl) (ha:=by simp (disch:=first|omega|(simp only[ln];omega)) [idf_Wd',if_pos,g0,g3,g4,hat2,hae2,hi',List.length_map])
  refine .f (l8Put_fc A ga (by omega)) hb210 ?_ (ha:=by simp (disch:=first|omega|(simp only[ln];omega)) [idf_Wd',if_pos,g0,g3,g4,hat2,hae2,hi',List.length_map])
  refine .e ?_ (by simp (disch:=first|omega|(simp only[ln];omega)) [if_pos,g0,g3,g4,hat2,hae2,hi',List.length_map]; rfl)
  refine hK8 _ ?_
  refine .sq fun K9 hK9=>?_
  refine .region ?_
  refine .kf 6 ogb hb93 ?_ (by simp (disch:=first|omega|(simp only[ln];omega)) [List.take_succ_cons,List.take_zero,if_pos,g0,g3,g4,hat2,hae2,hi',List.length_map]; rfl) (ha:=by simp (disch:=first|omega|(simp only[ln];omega)) [idf_Wd',if_pos,g0,g3,g4,hat2,hae2,hi',List.length_map])
  refine .f (l8Put_fc (insU A ga) gb (by omega)) hb210 ?_ (ha:=by simp (disch:=first|omega|(simp only[ln];omega)) [idf_Wd',if_pos,g0,g3,g4,hat2,hae2,hi',List.length_map])
  refine .e ?_ (by simp (disch:=first|omega|(simp only[ln];omega)) [if_pos,g0,g3,g4,hat2,hae2,hi',List.length_map]; rfl)
  refine hK9 _ ?_
  refine .q ?_
  have hB0 : insU (insU A ga) gb = insS (seqM L i ++ [ga] ++ [gb] ++ rowM L i 0):=by rw [rowM,List.append_nil,insS_snoc,insS_snoc,hA]
  refine .block ?_
  
  refine .loop (fun N s=>∃ k : Nat,∃ B : List GP,N = i - k ∧ k ≤ i ∧ (B = insS (seqM L i ++ [ga] ++ [gb] ++ rowM L i k)) ∧ s.env 0 = .isl (L.map Sg.cells) ∧ s.env 3 = .isl (B.map cellS) ∧ s.env 4 = .int .i64 (i : Int) ∧ s.env 5 = .int .i64 (k : Int) ∧ s.nt = 56) (i) (by refine ⟨0,(insU (insU A ga) gb),by omega,by omega,hB0,?_,?_,?_,?_,rfl⟩ <;> first|(simp (disch:=omega) [g0,g3,g4];done)|omega|(simp;done)|(simp;omega)) ?_
  clear g0 g3 g4
  rintro N ⟨e,H,mm,nt⟩ ⟨k,B,rfl,hk,hB,g0,g3,g4,g5,rfl⟩
  simp only [] at g0 g3 g4 g5
  refine .sq fun K11 hK11=>?_
  refine .q ?_ (by simp (disch:=first|omega|(simp only[ln];omega)) [g4,g5]; rfl)
  refine .c (fun h34=>?_) (fun h34=>?_)
  ·try simp only[dc]at h34
   have hk' : k < i:=by omega
   have hkL : k < L.length:=by omega
   have hatk0:=gq_get hkL
   have gk:=z2 _ (gq_mem hkL)
   have hatk : (L.map Sg.cells)[k]? = some (Sg.cells (gq L k)):=by rw [List.getElem?_map,hatk0]; rfl
   have haek : ∀ h : k < (L.map Sg.cells).length,(L.map Sg.cells)[k] = Sg.cells (gq L k):=fun h=>by rw [List.getElem?_eq_getElem h] at hatk; simpa using hatk
   have hBb:=inr_b z1 hi' (Nat.le_of_lt hk') ga gb
   rw [← hB] at hBb
   refine .skip ?_
   refine hK11 _ ?_
   refine .sq fun K13 hK13=>?_
   refine .block ?_
   refine .sq fun K14 hK14=>?_
   by_cases hm1 : (meetI s0 (gq L k)).1 = 1
   ·have hmt:=l4Meet_fc s0 (gq L k) gs gk
    rw [l4V_one gs gk hm1] at hmt
    have hok:=mtF_ok s0 (gq L k)
    rw [mtF_good gs gk] at hok
    have hone:=meet_one gs gk hm1
    obtain ⟨gp,hgp⟩ : ∃ g,g = toG (meetI s0 (gq L k)).2.1:=⟨_,rfl⟩
    have vgp : gp.1 = (meetI s0 (gq L k)).2.1:=by rw [hgp]; exact toG_val hok.1 hone.1
    have hgm : toG (meetI (gq L i) (gq L k)).2.1 = gp:=by rw [← hs0,hgp]
    have hmk : (meetI (gq L i) (gq L k)).1 = 1:=by rw [← hs0]; exact hm1
    rw [← vgp] at hmt
    refine .old fun hold=>?_
    refine .d 15 ?_
    refine .k 8 (fun fs15 hfs15=>?_) (by simp (disch:=first|omega|(simp only[ln];omega)) [runDf.eq_def,runF1,runF2,stepF.eq_def,updo.eq_def,hupo.eq_def,opSto1.eq_def,List.take_succ_cons,List.take_zero,if_pos,g0,g3,g4,g5,hat2,hae2,hatk,haek,hi',hkL,z3,List.length_map]; rfl)
    refine .f hmt hb106 ?_ (ha:=by simp (disch:=first|omega|(simp only[ln];omega)) [idf_Wd',if_pos,g0,g3,g4,g5,hat2,hae2,hatk,haek,hi',hkL,z3,List.length_map])
    refine .k 3 (fun fs16 hfs16=>?_) (by simp (disch:=first|omega|(simp only[ln];omega)) [runDf.eq_def,runF1,runF2,stepF.eq_def,updo.eq_def,hupo.eq_def,opSto1.eq_def,List.take_succ_cons,List.take_zero,if_pos,g0,g3,g4,g5,hat2,hae2,hatk,haek,hi',hkL,z3,List.length_map]; rfl)
    refine DP.runF1q (by simp (disch:=first|omega|(simp only[ln];omega)) [runDf.eq_def,runF1,runF2,stepF.eq_def,updo.eq_def,hupo.eq_def,opSto1.eq_def,if_pos,g0,g3,g4,g5,hat2,hae2,hatk,haek,hi',hkL,z3,List.length_map]; rfl) fun fq17 hfq17=>?_
    simp [qids,asksB,Op.operands,topId] at hfq17
    simp only [updo]
    refine .k 2 (fun fs18 hfs18=>?_) (by simp (disch:=first|omega|(simp only[ln];omega)) [runDf.eq_def,runF1,runF2,stepF.eq_def,updo.eq_def,hupo.eq_def,opSto1.eq_def,List.take_succ_cons,List.take_zero,if_pos,g0,g3,g4,g5,hat2,hae2,hatk,haek,hi',hkL,z3,List.length_map]; rfl)
    refine DQ.asg1 _ rfl rfl ?_
    simp only [updo]
    refine DQ.sto1 (m:=15) [12] _ (by simp (disch:=first|omega|(simp only[ln];omega)) [runDf.eq_def,runF1,runF2,stepF.eq_def,updo.eq_def,hupo.eq_def,opSto1.eq_def,if_pos,g0,g3,g4,g5,hat2,hae2,hatk,haek,hi',hkL,z3,List.length_map]; rfl) rfl (by simp only[ln,hfs15,hfs16,hfs18];omega) (by kernel_rfl) (by intro k f hk hex; simp only [List.mem_cons,List.not_mem_nil,or_false] at hex; rcases hex with rfl <;> (simp [List.getElem?_append,hfs15,hfs16,hfs18] at hk; subst hk; refine ⟨?_,by first | omega | (simp; done) | (simp; omega)⟩; simp [qids,asksB,Op.operands,Call.operands,topId,numS,numI,Wd,hfq17]; try omega)) ?_
    try simp only []
    refine DQ.sto1 (m:=15) [] _ (by simp (disch:=first|omega|(simp only[ln];omega)) [runDf.eq_def,runF1,runF2,stepF.eq_def,updo.eq_def,hupo.eq_def,opSto1.eq_def,if_pos,g0,g3,g4,g5,hat2,hae2,hatk,haek,hi',hkL,z3,List.length_map]; rfl) rfl (by simp only[ln,hfs15,hfs16,hfs18];omega) (by kernel_rfl) (by intro k f hk hex; simp only [List.not_mem_nil] at hex) ?_
    try simp only []
    refine hK14 _ ?_
    refine .q ?_
    refine .c (t:=true) (fun h51=>?_) (fun h51=>?_)
    ·try simp only[dc]at h51
     refine .region ?_
     refine .kf 2 (l8Put_fc B gp (by omega)) hb210 ?_ (by simp (disch:=first|omega|(simp only[ln];omega)) [List.take_succ_cons,List.take_zero,g0,g3,g4,g5]; rfl) (ha:=by simp (disch:=first|omega|(simp only[ln];omega)) [idf_Wd',g0,g3,g4,g5])
     refine .e ?_ (by simp (disch:=first|omega|(simp only[ln];omega)) [g0,g3,g4,g5]; rfl)
     refine hK13 _ ?_
     refine .r ?_ (by simp (disch:=first|omega|(simp only[ln];omega)) [g5]; rfl)
     refine ⟨i - (k + 1),by omega,k + 1,(insU B gp),rfl,by omega,by rw [rowS_yes hmk,← hB,hgm],?_,?_,?_,?_,rfl⟩ <;> first|(simp (disch:=omega) [g0,g3,g4,g5];done)|omega|(simp;done)|(simp;omega)
    ·simp at h51
   ·have hmt:=l4Meet_fc s0 (gq L k) gs gk
    obtain ⟨b1,b2,b3,c1,c2,c3,s1,s2,s3,t1,t2,t3,h4V,o1,o2,o3,o4,o5,o6⟩:=l4V_k gs gk
    rw [h4V] at hmt
    have hmk : ¬ (meetI (gq L i) (gq L k)).1 = 1:=by rw [← hs0]; exact hm1
    obtain ⟨v,hv⟩ : ∃ v,v = (meetI s0 (gq L k)).1:=⟨_,rfl⟩
    rw [← hv] at hmt hm1
    have hv1 : (v == 1) = false:=by simpa using hm1
    refine .old fun hold=>?_
    refine .d 15 ?_
    refine .k 8 (fun fs20 hfs20=>?_) (by simp (disch:=first|omega|(simp only[ln];omega)) [runDf.eq_def,runF1,runF2,stepF.eq_def,updo.eq_def,hupo.eq_def,opSto1.eq_def,List.take_succ_cons,List.take_zero,if_pos,g0,g3,g4,g5,hat2,hae2,hatk,haek,hi',hkL,o1,o2,o3,o4,o5,o6,List.length_map]; rfl)
    refine .f hmt hb106 ?_ (ha:=by simp (disch:=first|omega|(simp only[ln];omega)) [idf_Wd',if_pos,g0,g3,g4,g5,hat2,hae2,hatk,haek,hi',hkL,o1,o2,o3,o4,o5,o6,List.length_map])
    refine .k 3 (fun fs21 hfs21=>?_) (by simp (disch:=first|omega|(simp only[ln];omega)) [runDf.eq_def,runF1,runF2,stepF.eq_def,updo.eq_def,hupo.eq_def,opSto1.eq_def,List.take_succ_cons,List.take_zero,if_pos,g0,g3,g4,g5,hat2,hae2,hatk,haek,hi',hkL,o1,o2,o3,o4,o5,o6,List.length_map]; rfl)
    refine DP.runF1q (by simp (disch:=first|omega|(simp only[ln];omega)) [runDf.eq_def,runF1,runF2,stepF.eq_def,updo.eq_def,hupo.eq_def,opSto1.eq_def,if_pos,g0,g3,g4,g5,hat2,hae2,hatk,haek,hi',hkL,o1,o2,o3,o4,o5,o6,List.length_map]; rfl) fun fq22 hfq22=>?_
    simp [qids,asksB,Op.operands,topId] at hfq22
    simp only [updo]
    refine .k 2 (fun fs23 hfs23=>?_) (by simp (disch:=first|omega|(simp only[ln];omega)) [runDf.eq_def,runF1,runF2,stepF.eq_def,updo.eq_def,hupo.eq_def,opSto1.eq_def,List.take_succ_cons,List.take_zero,if_pos,g0,g3,g4,g5,hat2,hae2,hatk,haek,hi',hkL,o1,o2,o3,o4,o5,o6,List.length_map]; rfl)
    refine DQ.asg1 _ rfl rfl ?_
    simp only [updo]
    refine DQ.sto1 (m:=15) [12] _ (by simp (disch:=first|omega|(simp only[ln];omega)) [runDf.eq_def,runF1,runF2,stepF.eq_def,updo.eq_def,hupo.eq_def,opSto1.eq_def,if_pos,g0,g3,g4,g5,hat2,hae2,hatk,haek,hi',hkL,o1,o2,o3,o4,o5,o6,List.length_map]; rfl) rfl (by simp only[ln,hfs20,hfs21,hfs23];omega) (by kernel_rfl) (by intro k f hk hex; simp only [List.mem_cons,List.not_mem_nil,or_false] at hex; rcases hex with rfl <;> (simp [List.getElem?_append,hfs20,hfs21,hfs23] at hk; subst hk; refine ⟨?_,by first | omega | (simp; done) | (simp; omega)⟩; simp [qids,asksB,Op.operands,Call.operands,topId,numS,numI,Wd,hfq22]; try omega)) ?_
    try simp only []
    refine DQ.sto1 (m:=15) [] _ (by simp (disch:=first|omega|(simp only[ln];omega)) [runDf.eq_def,runF1,runF2,stepF.eq_def,updo.eq_def,hupo.eq_def,opSto1.eq_def,if_pos,g0,g3,g4,g5,hat2,hae2,hatk,haek,hi',hkL,o1,o2,o3,o4,o5,o6,List.length_map]; rfl) rfl (by simp only[ln,hfs20,hfs21,hfs23];omega) (by kernel_rfl) (by intro k f hk hex; simp only [List.not_mem_nil] at hex) ?_
    try simp only []
    refine hK14 _ ?_
    refine .q ?_ (by simp (disch:=first|omega|(simp only[ln];omega)) [hv1]; rfl)
    refine .c (t:=false) (fun h51=>?_) (fun h51=>?_)
    ·simp at h51
    ·try simp only[dc]at h51
     refine .skip ?_
     refine hK13 _ ?_
     refine .r ?_ (by simp (disch:=first|omega|(simp only[ln];omega)) [g5]; rfl)
     refine ⟨i - (k + 1),by omega,k + 1,B,rfl,by omega,by rw [rowS_no hmk]; exact hB,?_,?_,?_,?_,rfl⟩ <;> first|(simp (disch:=omega) [g0,g3,g4,g5];done)|omega|(simp;done)|(simp;omega)
  ·try simp only[dc]at h34
   have hki : k = i:=by omega
   have hB' : B = insS (seqM L (i + 1)):=by rw [hB,hki,← seqS_step,← hs0,← hga,← hgb]
   refine .exit ?_
   refine hK7 _ ?_
   refine .r ?_ (by simp (disch:=first|omega|(simp only[ln];omega)) [g4]; rfl)
   refine ⟨L.length - (i + 1),by omega,i + 1,B,rfl,by omega,hB',?_,?_,?_,rfl⟩ <;> first|(simp (disch:=omega) [g0,g3,g4];done)|omega|(simp;done)|(simp;omega)
 ·try simp only[dc]at h13
  have hin : i = L.length:=by omega
  subst hin
  have hAs : A = hitP L:=hA
  subst hAs
  refine .exit ?_
  refine hK3 _ ?_
  refine .q ?_ (by simp (disch:=first|omega|(simp only[ln];omega)) [g3]; rfl)
  refine .ret ?_
  exact hK _ _ _ _ trivial (Fin.m)
end

end Go.Proofs.YtaibemhdfhchfaaGreat

/- Walks: hits of the reference, told. -/
namespace Go.Proofs.YtaibemhdfhchfaaGreat
open Go Go.RowKit
set_option linter.unusedSimpArgs false
set_option linter.unusedVariables false
set_option maxRecDepth 100000
attribute [local simp] szT3 byT3 agT3 unT3 zoT3 szT27 byT27 agT27 flT27 fdT27_0 fdT27_1 fdT27_2 fdT27_3 zoT27 szT29 byT29 agT29 flT29 fdT29_0 fdT29_1 fdT29_2 zoT29 szT32 byT32 agT32 elT32 unT32 zoT32 szT54 byT54 agT54 elT54 unT54 zoT54 szT60 byT60 agT60 flT60 fdT60_0 fdT60_1 zoT60 szT127 byT127 agT127 flT127 fdT127_0 fdT127_1 zoT127 szT129 byT129 agT129 flT129 fdT129_0 fdT129_1 fdT129_2 zoT129 szT163 byT163 agT163 elT163 unT163 zoT163

theorem l8On_fc (L : List Sg) (g : GP) (hl : L.length ≤ 1048576) (z2 : ∀ s ∈ L,s.good = true) : FC Tryz.prog 136 [.isl (L.map Sg.cells),l3A g.1.x.v g.1.y.v g.1.w.v] (Wd .i64 (onL L g.1)) :=
  FC.of_own (z:=1) (es:=wd .i64 (onL L g.1)) (mk:=fun id=>.osl id 0 (onL L g.1).length) (by simp [idfL,idf,idfLL_iff,Sg.cells,l3A,l3C,idf_Wd']) (by simp [idf_Wd']) (fun id=>fz_wd rfl) fun nx=>l8On_own L g hl z2 nx

section
attribute [local simp] idf_numS cells_numS numS_fold idf_numI cells_numI numI_fold Sp.av Sp.cells Sg.av Sg.cells l3A l3C Pt.cells
set_option maxHeartbeats 4000000 in
theorem hitsS_own (L : List Sg) (hl : L.length ≤ 1099511627776) (hz : sgF L = 0) (nx : Nat) : ACall Tryz.prog 42 [.isl (L.map Sg.cells)] (fun _=>none) nx (own1 nx 13 (hitR L) (fun id=>.tup [.osl id 0 (hitP L).length,.bool true])):=by
 obtain ⟨z1,z2⟩:=sgF_zero hz
 have hd : decide (sgF L = 0) = true:=decide_eq_true hz
 have hpb : (hitP L).length ≤ 1680:=by rw [hitP_len]; exact ded_b z1 (Nat.le_refl _)
 refine .b Tryz.func42 41 fun K hK=>?_
 refine .q ?_
 refine .sq fun K2 hK2=>?_
 refine .sq fun K3 hK3=>?_
 refine .region ?_
 refine .kf 1 (l7Ok_fc L hl) hb89 ?_ (by simp (disch:=first|omega|(simp only[ln];omega)) [List.take_succ_cons,List.take_zero,hd]; rfl) (ha:=by simp (disch:=first|omega|(simp only[ln];omega)) [idf_Wd',hd])
 refine .e ?_ (by simp (disch:=first|omega|(simp only[ln];omega)) [hd]; rfl)
 refine hK3 _ ?_
 refine .c (t:=false) (fun h11=>?_) (fun h11=>?_)
 ·simp at h11
 ·try simp only[dc]at h11
  refine .skip ?_
  refine hK2 _ ?_
  refine .sq fun K4 hK4=>?_
  refine .region ?_
  refine .kf 1 (l8Points_fc L z1 z2) hb134 ?_
  refine .e ?_
  refine hK4 _ ?_
  refine .q ?_
  refine .sq fun K6 hK6=>?_
  refine .q ?_
  refine .block ?_
  
  refine .loop (fun N s=>∃ j : Nat,∃ C : List (List AV),∃ io : Nat,N = (hitP L).length - j ∧ j ≤ (hitP L).length ∧ (C = ((hitP L).take j).map (hitC L)) ∧ (nx ≤ io) ∧ s.env 0 = .isl (L.map Sg.cells) ∧ s.env 4 = .isl ((hitP L).map cellS) ∧ s.env 5 = .osl io 0 j ∧ s.env 6 = .int .i64 (j : Int) ∧ s.heap io = some (13,C) ∧ io < s.nx ∧ s.nt = 41) ((hitP L).length) (by refine ⟨0,[],nx,by omega,by omega,rfl,by omega,?_,?_,?_,?_,?_,?_,rfl⟩ <;> first|(simp (disch:=omega);done)|omega|(simp;done)|(simp;omega)) ?_
  rintro N ⟨e,H,mm,nt⟩ ⟨j,C,io,rfl,hj,hC,hio,g0,g4,g5,g6,Ho,xo,rfl⟩
  simp only [] at g0 g4 g5 g6 Ho xo
  refine .sq fun K8 hK8=>?_
  refine .q ?_ (by simp (disch:=first|omega|(simp only[ln];omega)) [g4,g6,List.length_map]; rfl)
  refine .c (fun h18=>?_) (fun h18=>?_)
  ·try simp only[dc]at h18
   have hj' : j < (hitP L).length:=by omega
   obtain ⟨g,hg⟩ : ∃ g,(hitP L)[j]? = some g:=⟨_,List.getElem?_eq_getElem hj'⟩
   have hatj : ((hitP L).map cellS)[j]? = some (cellS g):=by rw [List.getElem?_map,hg]; rfl
   have haej : ∀ h : j < ((hitP L).map cellS).length,((hitP L).map cellS)[j] = cellS g:=fun h=>by rw [List.getElem?_eq_getElem h] at hatj; simpa using hatj
   have hCl : C.length = j:=by rw [hC,List.length_map,List.length_take]; omega
   have hC' : C ++ [hitC L g] = ((hitP L).take (j + 1)).map (hitC L):=by rw [hC,List.take_add_one,hg]; simp
   have hc1 : (C.length + 1) * 120 ≤ 140737488355328:=by omega
   have hc2 : C.length ≤ 9223372036854775806:=by omega
   have htk : List.take j C = C:=List.take_of_length_le (Nat.le_of_eq hCl)
   have hap : hitC L g = Pt.cells g.1 ++ [Wd .i64 (onL L g.1)]:=rfl
   simp only [cellS,l3C] at hatj haej
   refine .skip ?_
   refine hK8 _ ?_
   refine .sq fun K10 hK10=>?_
   refine .block ?_
   refine .sq fun K11 hK11=>?_
   refine .region ?_
   refine .kf 4 (l3PointG g) hb135 ?_ (by simp (disch:=first|omega|(simp only[ln];omega)) [List.take_succ_cons,List.take_zero,if_pos,g0,g4,g5,g6,Ho,hatj,haej,hj',List.length_map]; rfl) (ha:=by simp (disch:=first|omega|(simp only[ln];omega)) [idf_Wd',if_pos,g0,g4,g5,g6,Ho,hatj,haej,hj',List.length_map])
   refine .e ?_ (by simp (disch:=first|omega|(simp only[ln];omega)) [if_pos,g0,g4,g5,g6,Ho,hatj,haej,hj',List.length_map]; rfl)
   refine hK11 _ ?_
   refine AWP.drawT 10 Tryz.checked.mixed (by kernel_rfl) (by kernel_rfl) ?_
   simp only [List.take_succ_cons,List.take_zero,List.drop_succ_cons,List.drop_zero]
   refine .k 7 (fun fs12 hfs12=>?_) (by simp (disch:=first|omega|(simp only[ln];omega)) [runDf.eq_def,runF1,runF2,stepF.eq_def,updo.eq_def,hupo.eq_def,opSto1.eq_def,List.take_succ_cons,List.take_zero,if_pos,g0,g4,g5,g6,Ho,hatj,haej,hj',hc1,hc2,hCl,htk,hap,List.length_map]; rfl)
   refine .f (l8On_fc L g (by omega) z2) hb136 ?_ (ha:=by simp (disch:=first|omega|(simp only[ln];omega)) [idf_Wd',if_pos,g0,g4,g5,g6,Ho,hatj,haej,hj',hc1,hc2,hCl,htk,hap,List.length_map])
   refine .k 2 (fun fs13 hfs13=>?_) (by simp (disch:=first|omega|(simp only[ln];omega)) [runDf.eq_def,runF1,runF2,stepF.eq_def,updo.eq_def,hupo.eq_def,opSto1.eq_def,List.take_succ_cons,List.take_zero,if_pos,g0,g4,g5,g6,Ho,hatj,haej,hj',hc1,hc2,hCl,htk,hap,List.length_map]; rfl)
   simp only [DP]
   refine AOPS.opapp (by simp (disch:=first|omega|(simp only[ln];omega)) [opApp.eq_def,aSrc_isl,aSrc_osl,aSrc_nsl,aSrc_int,wd_app,wd_app2,if_pos,wd_append,wd_take,wd_drop,List.nil_append,g0,g4,g5,g6,Ho,hatj,haej,hj',hc1,hc2,hCl,htk,hap,List.length_map,src_Wd' (P:=Tryz.prog) elT54]; first | rfl | exact ⟨rfl,rfl⟩ | exact ⟨rfl,rfl,rfl⟩) (by simp) (by simp) ?_
   simp only [puts_some,hdrop]
   refine .e ?_ (by simp (disch:=first|omega|(simp only[ln];omega)) [if_pos,g0,g4,g5,g6,Ho,hatj,haej,hj',hc1,hc2,hCl,htk,hap,List.length_map]; rfl)
   refine hK10 _ ?_
   refine .r ?_ (by simp (disch:=first|omega|(simp only[ln];omega)) [g6]; rfl)
   refine ⟨(hitP L).length - (j + 1),by omega,j + 1,(C ++ [hitC L g]),(mm + 1 + 10),rfl,by omega,hC',by omega,?_,?_,?_,?_,?_,?_,rfl⟩ <;> first|(simp (disch:=omega) [g0,g4,g5,g6,Ho,hCl,hap,htk,Pt.cells];done)|omega|(simp;done)|(simp;omega)
  ·try simp only[dc]at h18
   have hjn : j = (hitP L).length:=by omega
   subst hjn
   have hCR : C = hitR L:=by rw [hC,List.take_length]; rfl
   subst hCR
   refine .exit ?_
   refine hK6 _ ?_
   refine .q ?_ (by simp (disch:=first|omega|(simp only[ln];omega)) [g5]; rfl)
   refine .ret ?_
   exact hK _ _ _ _ _ trivial (Fin.own1 (Fin.mk (by simp (disch:=omega) [aRes,aResL,aRes1]; try rfl)) (id:=io) (by first|exact Ho|simp [Ho])) (⟨io,by first | omega | (simp; done) | (simp; omega),by first | omega | (simp; done) | (simp; omega),rfl,rfl⟩)
end
section
attribute [local simp] idf_numS cells_numS numS_fold idf_numI cells_numI numI_fold Sp.av Sp.cells Sg.av Sg.cells
set_option maxHeartbeats 1000000 in
theorem hitsS_no (L : List Sg) (hl : L.length ≤ 1099511627776) (hz : ¬ sgF L = 0) : FC Tryz.prog 42 [.isl (L.map Sg.cells)] (.tup [.nsl,.bool false]):=by
 have hd : decide (sgF L = 0) = false:=decide_eq_false hz
 refine .b Tryz.func42 41 (fun nx K hK=>?_) (hi:=by simp [idfL,idf,idfLL_iff,Sg.cells,Pt.av,Pt.cells])
 refine .q ?_
 refine .sq fun K2 hK2=>?_
 refine .sq fun K3 hK3=>?_
 refine .region ?_
 refine .kf 1 (l7Ok_fc L hl) hb89 ?_ (by simp (disch:=first|omega|(simp only[ln];omega)) [List.take_succ_cons,List.take_zero,hd]; rfl) (ha:=by simp (disch:=first|omega|(simp only[ln];omega)) [idf_Wd',hd])
 refine .e ?_ (by simp (disch:=first|omega|(simp only[ln];omega)) [hd]; rfl)
 refine hK3 _ ?_
 refine .c (t:=true) (fun h11=>?_) (fun h11=>?_)
 ·try simp only[dc]at h11
  refine .q ?_
  refine .ret ?_
  exact hK _ _ _ _ trivial ((Fin.mk (by simp (disch:=omega) [aRes,aResL,aRes1]; try rfl)))
 ·simp at h11
end
theorem hitsS_fc (L : List Sg) (hl : L.length ≤ 1099511627776) (hz : sgF L = 0) : FC Tryz.prog 42 [.isl (L.map Sg.cells)] (.tup [.isl (hitR L),.bool true]) :=
  FC.of_own (z:=13) (es:=hitR L) (mk:=fun id=>.tup [.osl id 0 (hitP L).length,.bool true]) (by simp [idfL,idf,idfLL_iff,Sg.cells,Pt.av,Pt.cells]) ⟨idf_hitR L,trivial,trivial⟩ (fun id=>by have h : fz id (hitR L) (.osl id 0 (hitP L).length) = .isl (hitR L):=fz_fill (hitC L) (hitP L) rfl; exact congrArg (fun x=>AV.tup [x,.bool true]) h) fun nx=>hitsS_own L hl hz nx

end Go.Proofs.YtaibemhdfhchfaaGreat
