/- Walks: FnExactHitsOf, walked. -/
import Derived.Test.YtaibemhdfhchfaaGreatG1A

namespace Go.Proofs.YtaibemhdfhchfaaGreat
open Go Go.RowKit
set_option linter.unusedSimpArgs false
set_option linter.unusedVariables false
set_option maxRecDepth 100000
attribute [local simp] szT3 byT3 agT3 unT3 zoT3 szT4 byT4 agT4 unT4 zoT4 szT54 byT54 agT54 elT54 unT54 zoT54 szT60 byT60 agT60 flT60 fdT60_0 fdT60_1 zoT60

theorem lv_hitR (H : Heap) (k : Nat) (L : List Sg) : lv H (k + 3) (.isl (hitR L)) = .isl (hitR L):=by
  rw [YtaibemhdfhchfaaGreat.lv]
  congr 1
  unfold hitR
  rw [List.map_map]
  apply List.map_congr_left
  intro g _
  show (hitC L g).map (lv H (k + 2)) = hitC L g
  unfold hitC
  rw [List.map_append,lvL_int (fun x hx=>by
    simp only [Pt.cells,List.mem_cons,List.not_mem_nil,or_false] at hx
    rcases hx with rfl | rfl | rfl | rfl | rfl | rfl | rfl | rfl | rfl | rfl | rfl | rfl <;> exact ⟨_,rfl⟩)]
  congr 1
  show [lv H (k + 2) (.isl (wd .i64 (onL L g.1)))] = [Wd .i64 (onL L g.1)]
  rw [YtaibemhdfhchfaaGreat.lv,lv_wd]; rfl
theorem lv_hitR4 (H : Heap) (L : List Sg) : lv H 4 (.isl (hitR L)) = .isl (hitR L):=lv_hitR H 1 L
theorem hcC_len (L : List Sg) (i : Nat) : (hcC L i).length = 12:=rfl
theorem hcZ_len {L : List Sg} (h : L.length ≤ 40) (i : Nat) : (hcZ L i).length ≤ 40:=Nat.le_trans (onL_len L _) h

set_option maxHeartbeats 1000000 in
theorem eqHitS_nil  : FC Tryz.prog 60 [.nsl,.nsl] (.bool true):=by
 refine .b Tryz.func60 27 (fun nx K hK=>?_)
 refine .q ?_
 refine .sq fun K2 hK2=>?_
 refine .q ?_
 refine .c (t:=false) (fun h10=>?_) (fun h10=>?_)
 ·simp at h10
 ·try simp only[dc]at h10
  refine .skip ?_
  refine hK2 _ ?_
  refine .sq fun K4 hK4=>?_
  refine .q ?_
  refine .block ?_
  
  refine .loop (fun N s=>∃ i : Nat,N = 0 - i ∧ i ≤ 0 ∧ s.env 0 = .nsl ∧ s.env 5 = .int .i64 (i : Int) ∧ s.nt = 27) (0) (by refine ⟨0,by omega,by omega,?_,?_,rfl⟩ <;> first|(simp (disch:=omega);done)|omega|(simp;done)|(simp;omega)) ?_
  rintro N ⟨e,H,mm,nt⟩ ⟨i,rfl,hi,g0,g5,rfl⟩
  simp only [] at g0 g5
  refine .sq fun K6 hK6=>?_
  refine .q ?_ (by simp (disch:=first|omega|(simp only[ln];omega)) [g0,g5]; rfl)
  refine .c (t:=decide ((i : Int) < 0)) (fun h14=>?_) (fun h14=>?_)
  ·simp at h14; omega
  ·try simp only[dc]at h14
   refine .exit ?_
   refine hK4 _ ?_
   refine .q ?_
   refine .ret ?_
   exact hK _ _ _ _ trivial (Fin.m)
set_option maxHeartbeats 1000000 in
theorem markHitS_nil (k : Int) : FC Tryz.prog 61 [.nsl,.int .i64 k] (.int .i64 k):=by
 refine .b Tryz.func61 140 (fun nx K hK=>?_)
 refine .q ?_
 refine .sq fun K2 hK2=>?_
 refine .q ?_
 refine .block ?_
 
 refine .loop (fun N s=>∃ i : Nat,N = 0 - i ∧ i ≤ 0 ∧ s.env 0 = .nsl ∧ s.env 1 = .int .i64 k ∧ s.env 5 = .int .i64 (i : Int) ∧ s.nt = 140) (0) (by refine ⟨0,by omega,by omega,?_,?_,?_,rfl⟩ <;> first|(simp (disch:=omega);done)|omega|(simp;done)|(simp;omega)) ?_
 rintro N ⟨e,H,mm,nt⟩ ⟨i,rfl,hi,g0,g1,g5,rfl⟩
 simp only [] at g0 g1 g5
 refine .sq fun K4 hK4=>?_
 refine .q ?_ (by simp (disch:=first|omega|(simp only[ln];omega)) [g0,g5]; rfl)
 refine .c (t:=decide ((i : Int) < 0)) (fun h9=>?_) (fun h9=>?_)
 ·simp at h9; omega
 ·try simp only[dc]at h9
  refine .exit ?_
  refine hK2 _ ?_
  refine .q ?_ (by simp (disch:=first|omega|(simp only[ln];omega)) [g1]; rfl)
  refine .ret ?_
  exact hK _ _ _ _ trivial (Fin.m)
set_option maxHeartbeats 1000000 in
theorem heldHitS_nil (k : Int) : FC Tryz.prog 62 [.nsl,.int .i64 k] (.int .i64 k):=by
 refine .b Tryz.func62 166 (fun nx K hK=>?_)
 refine .q ?_
 refine .sq fun K2 hK2=>?_
 refine .q ?_
 refine .block ?_
 
 refine .loop (fun N s=>∃ i : Nat,N = 0 - i ∧ i ≤ 0 ∧ s.env 0 = .nsl ∧ s.env 1 = .int .i64 k ∧ s.env 5 = .int .i64 (i : Int) ∧ s.nt = 166) (0) (by refine ⟨0,by omega,by omega,?_,?_,?_,rfl⟩ <;> first|(simp (disch:=omega);done)|omega|(simp;done)|(simp;omega)) ?_
 rintro N ⟨e,H,mm,nt⟩ ⟨i,rfl,hi,g0,g1,g5,rfl⟩
 simp only [] at g0 g1 g5
 refine .sq fun K4 hK4=>?_
 refine .q ?_ (by simp (disch:=first|omega|(simp only[ln];omega)) [g0,g5]; rfl)
 refine .c (t:=decide ((i : Int) < 0)) (fun h9=>?_) (fun h9=>?_)
 ·simp at h9; omega
 ·try simp only[dc]at h9
  refine .exit ?_
  refine hK2 _ ?_
  refine .q ?_ (by simp (disch:=first|omega|(simp only[ln];omega)) [g1]; rfl)
  refine .ret ?_
  exact hK _ _ _ _ trivial (Fin.m)
section
attribute [local simp] idf_numS cells_numS numS_fold idf_numI cells_numI numI_fold
set_option maxHeartbeats 8000000 in
theorem fnExactHitsOf_yes (L : List Sg) (hl : L.length ≤ 9223372036854775807) (hz : sgF L = 0) : FC Tryz.prog 10 [.isl (L.map Sg.cells)] (.bool true):=by
 refine .b Tryz.func10 96 (fun nx K hK=>?_) (hi:=by simp [idfL,idf,idfLL_iff,Sg.cells,Pt.av,Pt.cells])
 refine .q ?_
 refine .q ?_
 refine .sq fun K3 hK3=>?_
 refine .region ?_
 refine .kf 2 (szSegS_fc L 1048576 (by omega) (by omega) hl) hb58 ?_
 refine .e ?_
 refine hK3 _ ?_
 refine .sq fun K4 hK4=>?_
 refine .q ?_
 refine .c (t:=decide (szN L.length 1048576 < 0)) (fun h18=>?_) (fun h18=>?_)
 ·try simp only[dc]at h18
  refine .q ?_
  refine .ret ?_
  exact hK _ _ _ _ trivial ((Fin.m))
 ·try simp only[dc]at h18
  obtain ⟨k1,_⟩:=szN_le h18
  have k2 : L.length ≤ 1048576:=by omega
  have k3 : L.length ≤ 1099511627776:=by omega
  obtain ⟨n,hLl⟩ : ∃ n,L.length = n:=⟨_,rfl⟩
  have tkL : List.take n (L.map Sg.cells) = L.map Sg.cells:=List.take_of_length_le (by rw [List.length_map]; omega)
  have own0:=fun nx=>toSegS_own L k2 nx
  rw [hLl] at own0
  have neg4 : decide (1 + 4 * (n : Int) < 0) = false:=by simp; omega
  
  obtain ⟨m,hm⟩ : ∃ m,(hitP L).length = m:=⟨_,rfl⟩
  obtain ⟨z1,z2⟩:=sgF_zero hz
  have hpb : m ≤ 1680:=by rw [← hm,hitP_len]; exact ded_b z1 (Nat.le_refl _)
  have own1:=fun nx=>hitsOf_nest L k3 hz nx
  rw [hm] at own1
  have feq:=eqHitS_fc L k2 (by rw [hm]; exact hpb)
  obtain ⟨M,hM⟩ : ∃ M,M = mkK (hcZ L) 1 m:=⟨_,rfl⟩
  obtain ⟨M0,M1⟩:=mkK_b (z:=hcZ L) (k:=1) (by omega) (by omega) (hcZ_len z1) (i:=m) (by omega)
  rw [← hM] at M0 M1
  have fhe:=heldHitS_fc m (hcZ L) 1 (by omega) (by omega) (by omega) (hcZ_len z1)
  rw [← hM] at fhe
  have negM : decide (M < 0) = false:=by simp; omega
  refine .skip ?_
  refine hK4 _ ?_
  refine .sq fun K7 hK7=>?_
  refine .region ?_
  refine .kf 1 (toSegS_fc L k2) hb59 ?_
  refine .f (hitsS_fc L k3 hz) hb42 ?_
  refine .e ?_
  refine hK7 _ ?_
  refine .sq fun K8 hK8=>?_
  refine .region ?_
  refine .k 1 ?_
  refine AOPS.ocallL 4 (own0 _) rfl rfl rfl hb59 (by simp (disch:=first|omega|(simp only[ln];omega)) [lv,idf_Wd',lv_sp,lv_sg,lv_m2,lv_int,lv_bool,lv_nsl,List.map_map,List.length_map,hLl,tkL,mkR_len,↓lv_hitR4,lv_bool,lv_int]) (⟨fun _ h=>by simp [nwr,nwrL]; try exact h,by simp [nwr,nwrL,Sg.cells]⟩) (by simp (disch:=first|omega|(simp only[ln];omega))) (by simp) ?_
  intro ix nx2 nx2a nx2b
  simp only [] at nx2a nx2b
  simp only [puts_some,updo]
  refine .e ?_
  refine hK8 _ ?_
  refine .sq fun K9 hK9=>?_
  have J9 : ∀ s : St,(∃ (ig lo : Nat) (f : Nat → Nat),(HNst s.heap lo s.nx ig f m (hcC L) (hcZ L)) ∧ (ix < lo) ∧ s.env 0 = .isl (L.map Sg.cells) ∧ s.env 4 = .isl (hitR L) ∧ s.env 5 = .bool true ∧ s.env 6 = .osl ix 0 n ∧ s.env 7 = .osl ig 0 m ∧ s.env 8 = .bool true ∧ s.heap ix = some (4,L.map Sg.cells) ∧ ix < s.nx ∧ s.nt = 96) → K9 s:=by
   rintro ⟨e0,H,mm,nt⟩ ⟨ig,lo,f,hN,hxl,g0,g4,g5,g6,g7,g8,HX,xX,rfl⟩
   simp only [] at g0 g4 g5 g6 g7 g8 HX xX
   simp only [] at hN
   have hlv : lv H 4 (.osl ig 0 m) = .isl (hitR L):=by have h:=hN.lv (hcC_int L) 2; rw [h,hitR_mk,hm]
   refine hK9 _ ?_
   refine .sq fun K10 hK10=>?_
   refine .sq fun K11 hK11=>?_
   refine .region ?_
   refine .k 2 ?_ (by simp (disch:=first|omega|(simp only[ln];omega)) [List.take_succ_cons,List.take_zero,g0,g4,g5,g6,g7,g8,HX]; rfl)
   refine AOPS.lcall 4 (feq) rfl rfl rfl hb60 (by simp (disch:=first|omega|(simp only[ln];omega)) [lv,idf_Wd',lv_sp,lv_sg,lv_m2,lv_int,lv_bool,lv_nsl,List.map_map,List.length_map,hLl,tkL,mkR_len,↓lv_hitR4,lv_bool,lv_int,↓hlv,g0,g4,g5,g6,g7,g8,HX,g0,g4,g5,g6,g7,g8,HX]) (by simp [atm,atmL]) (by simp (disch:=first|omega|(simp only[ln];omega)) [g0,g4,g5,g6,g7,g8,HX]) (by simp) ?_
   simp only [puts_some,updo]
   refine .e ?_ (by simp (disch:=first|omega|(simp only[ln];omega)) [g0,g4,g5,g6,g7,g8,HX]; rfl)
   refine hK11 _ ?_
   refine .c (t:=false) (fun h40=>?_) (fun h40=>?_)
   ·simp at h40
   ·try simp only[dc]at h40
    refine .skip ?_
    refine hK10 _ ?_
    refine .sq fun K12 hK12=>?_
    refine .sq fun K13 hK13=>?_
    refine .region ?_
    refine .kf 2 (toSegS_fc L k2) hb59 ?_ (by simp (disch:=first|omega|(simp only[ln];omega)) [List.take_succ_cons,List.take_zero,g0,g4,g5,g6,g7,g8,HX]; rfl) (ha:=by simp (disch:=first|omega|(simp only[ln];omega)) [idf_Wd',g0,g4,g5,g6,g7,g8,HX])
    refine AOPS.lcall 4 (eqSegS_fc L hl) rfl rfl rfl hb51 (by simp (disch:=first|omega|(simp only[ln];omega)) [lv,idf_Wd',lv_sp,lv_sg,lv_m2,lv_int,lv_bool,lv_nsl,List.map_map,List.length_map,hLl,tkL,mkR_len,↓lv_hitR4,lv_bool,lv_int,g0,g4,g5,g6,g7,g8,HX,g0,g4,g5,g6,g7,g8,HX]) (by simp [atm,atmL]) (by simp (disch:=first|omega|(simp only[ln];omega)) [g0,g4,g5,g6,g7,g8,HX]) (by simp) ?_
    simp only [puts_some,updo]
    refine .e ?_ (by simp (disch:=first|omega|(simp only[ln];omega)) [g0,g4,g5,g6,g7,g8,HX]; rfl)
    refine hK13 _ ?_
    refine .c (t:=false) (fun h45=>?_) (fun h45=>?_)
    ·simp at h45
    ·try simp only[dc]at h45
     refine .skip ?_
     refine hK12 _ ?_
     refine .q ?_
     refine .sq fun K15 hK15=>?_
     have J15 : ∀ s : St,(∃ (ig lo hi : Nat) (f : Nat → Nat),(HNst s.heap lo hi ig f m (hcC L) (hcZ L)) ∧ (hi ≤ s.nx) ∧ s.env 0 = .isl (L.map Sg.cells) ∧ s.env 4 = .isl (hitR L) ∧ s.env 5 = .bool true ∧ s.env 7 = .osl ig 0 m ∧ s.env 8 = .bool true ∧ s.env 9 = .int .i64 (1 + 4 * (n : Int)) ∧ s.nt = 96) → K15 s:=by
      clear hlv
      rintro ⟨e0,H,mm,nt⟩ ⟨ig,lo,hi,f,hN,hhi,g0a,g4a,g5a,g7a,g8a,g9a,rfl⟩
      simp only [] at g0a g4a g5a g7a g8a g9a
      simp only [] at hN hhi
      have hlv : lv H 4 (.osl ig 0 m) = .isl (hitR L):=by have h:=hN.lv (hcC_int L) 2; rw [h,hitR_mk,hm]
      refine hK15 _ ?_
      refine .sq fun K16 hK16=>?_
      refine .sq fun K17 hK17=>?_
      refine .region ?_
      refine .k 5 ?_ (by simp (disch:=first|omega|(simp only[ln];omega)) [List.take_succ_cons,List.take_zero,g0a,g4a,g5a,g7a,g8a,g9a,neg4]; rfl)
      refine AOPS.lcall 4 (feq) rfl rfl rfl hb60 (by simp (disch:=first|omega|(simp only[ln];omega)) [lv,idf_Wd',lv_sp,lv_sg,lv_m2,lv_int,lv_bool,lv_nsl,List.map_map,List.length_map,hLl,tkL,mkR_len,↓lv_hitR4,lv_bool,lv_int,↓hlv,g0a,g4a,g5a,g7a,g8a,g9a,g0a,g4a,g5a,g7a,g8a,g9a,neg4]) (by simp [atm,atmL]) (by simp (disch:=first|omega|(simp only[ln];omega)) [g0a,g4a,g5a,g7a,g8a,g9a,neg4]) (by simp) ?_
      simp only [puts_some,updo]
      refine .e ?_ (by simp (disch:=first|omega|(simp only[ln];omega)) [g0a,g4a,g5a,g7a,g8a,g9a,neg4]; rfl)
      refine hK17 _ ?_
      refine .c (t:=false) (fun h61=>?_) (fun h61=>?_)
      ·simp at h61
      ·try simp only[dc]at h61
       refine .skip ?_
       refine hK16 _ ?_
       refine .q ?_
       refine .sq fun K19 hK19=>?_
       have J19 : ∀ s : St,(∃ (ig lo hi : Nat) (f : Nat → Nat),(HNst s.heap lo hi ig f m (mcC (hcZ L) 1) (mcZ (hcZ L) 1)) ∧ (hi ≤ s.nx) ∧ s.env 0 = .isl (L.map Sg.cells) ∧ s.env 4 = .isl (hitR L) ∧ s.env 5 = .bool true ∧ s.env 7 = .osl ig 0 m ∧ s.env 8 = .bool true ∧ s.env 10 = .int .i64 M ∧ s.nt = 96) → K19 s:=by
        clear hlv
        rintro ⟨e0,H,mm,nt⟩ ⟨ig,lo,hi,f,hN,hhi,g0b,g4b,g5b,g7b,g8b,g10b,rfl⟩
        simp only [] at g0b g4b g5b g7b g8b g10b
        simp only [] at hN hhi
        have hlv : lv H 4 (.osl ig 0 m) = .isl (mkR (hnV (mcC (hcZ L) 1) (mcZ (hcZ L) 1)) m):=hN.lv (mcC_int _ _) 2
        refine hK19 _ ?_
        refine .q ?_
        refine .sq fun K21 hK21=>?_
        refine .region ?_
        refine .k 2 ?_ (by simp (disch:=first|omega|(simp only[ln];omega)) [List.take_succ_cons,List.take_zero,g0b,g4b,g5b,g7b,g8b,g10b]; rfl)
        refine AOPS.lcall 4 (fhe) rfl rfl rfl hb62 (by simp (disch:=first|omega|(simp only[ln];omega)) [lv,idf_Wd',lv_sp,lv_sg,lv_m2,lv_int,lv_bool,lv_nsl,List.map_map,List.length_map,hLl,tkL,mkR_len,↓lv_hitR4,lv_bool,lv_int,↓hlv,g0b,g4b,g5b,g7b,g8b,g10b,g0b,g4b,g5b,g7b,g8b,g10b]) (by simp [atm,atmL]) (by simp (disch:=first|omega|(simp only[ln];omega)) [g0b,g4b,g5b,g7b,g8b,g10b]) (by simp) ?_
        simp only [puts_some,updo]
        refine .e ?_ (by simp (disch:=first|omega|(simp only[ln];omega)) [g0b,g4b,g5b,g7b,g8b,g10b]; rfl)
        refine hK21 _ ?_
        refine .sq fun K22 hK22=>?_
        refine .q ?_ (by simp (disch:=first|omega|(simp only[ln];omega)) [negM]; rfl)
        refine .c (t:=false) (fun h69=>?_) (fun h69=>?_)
        ·simp at h69
        ·try simp only[dc]at h69
         refine .skip ?_
         refine hK22 _ ?_
         refine .sq fun K24 hK24=>?_
         refine .q ?_ (by simp (disch:=first|omega|(simp only[ln];omega)) [g0b,g4b,g5b,g7b,g8b,g10b]; rfl)
         refine .c (t:=false) (fun h72=>?_) (fun h72=>?_)
         ·simp at h72
         ·try simp only[dc]at h72
          refine .skip ?_
          refine hK24 _ ?_
          refine .sq fun K26 hK26=>?_
          have J26 : ∀ s : St,(∃ (ig lo hi ih l2 h2 : Nat) (f f2 : Nat → Nat),(HNst s.heap lo hi ig f m (mcC (hcZ L) 1) (mcZ (hcZ L) 1)) ∧ (HNst s.heap l2 h2 ih f2 m (hcC L) (hcZ L)) ∧ s.env 0 = .isl (L.map Sg.cells) ∧ s.env 4 = .isl (hitR L) ∧ s.env 5 = .bool true ∧ s.env 7 = .osl ig 0 m ∧ s.env 10 = .int .i64 M ∧ s.env 12 = .osl ih 0 m ∧ s.env 13 = .bool true ∧ s.nt = 96) → K26 s:=by
           clear hlv
           rintro ⟨e0,H,mm,nt⟩ ⟨ig,lo,hi,ih,l2,h2,f,f2,hN,hNh,g0d,g4d,g5d,g7d,g10d,g12d,g13d,rfl⟩
           simp only [] at g0d g4d g5d g7d g10d g12d g13d
           simp only [] at hN hNh
           have hlv : lv H 4 (.osl ig 0 m) = .isl (mkR (hnV (mcC (hcZ L) 1) (mcZ (hcZ L) 1)) m):=hN.lv (mcC_int _ _) 2
           have hlw : lv H 4 (.osl ih 0 m) = .isl (hitR L):=by have h:=hNh.lv (hcC_int L) 2; rw [h,hitR_mk,hm]
           refine hK26 _ ?_
           refine .sq fun K27 hK27=>?_
           refine .sq fun K28 hK28=>?_
           refine .region ?_
           refine .k 2 ?_ (by simp (disch:=first|omega|(simp only[ln];omega)) [List.take_succ_cons,List.take_zero,g0d,g4d,g5d,g7d,g10d,g12d,g13d]; rfl)
           refine AOPS.lcall 4 (feq) rfl rfl rfl hb60 (by simp (disch:=first|omega|(simp only[ln];omega)) [lv,idf_Wd',lv_sp,lv_sg,lv_m2,lv_int,lv_bool,lv_nsl,List.map_map,List.length_map,hLl,tkL,mkR_len,↓lv_hitR4,lv_bool,lv_int,↓hlw,g0d,g4d,g5d,g7d,g10d,g12d,g13d,g0d,g4d,g5d,g7d,g10d,g12d,g13d]) (by simp [atm,atmL]) (by simp (disch:=first|omega|(simp only[ln];omega)) [g0d,g4d,g5d,g7d,g10d,g12d,g13d]) (by simp) ?_
           simp only [puts_some,updo]
           refine .e ?_ (by simp (disch:=first|omega|(simp only[ln];omega)) [g0d,g4d,g5d,g7d,g10d,g12d,g13d]; rfl)
           refine hK28 _ ?_
           refine .c (t:=false) (fun h87=>?_) (fun h87=>?_)
           ·simp at h87
           ·try simp only[dc]at h87
            refine .skip ?_
            refine hK27 _ ?_
            refine .q ?_
            refine .sq fun K30 hK30=>?_
            refine .region ?_
            refine .k 2 ?_ (by simp (disch:=first|omega|(simp only[ln];omega)) [List.take_succ_cons,List.take_zero,g0d,g4d,g5d,g7d,g10d,g12d,g13d]; rfl)
            refine AOPS.lcall 4 (fhe) rfl rfl rfl hb62 (by simp (disch:=first|omega|(simp only[ln];omega)) [lv,idf_Wd',lv_sp,lv_sg,lv_m2,lv_int,lv_bool,lv_nsl,List.map_map,List.length_map,hLl,tkL,mkR_len,↓lv_hitR4,lv_bool,lv_int,↓hlv,g0d,g4d,g5d,g7d,g10d,g12d,g13d,g0d,g4d,g5d,g7d,g10d,g12d,g13d]) (by simp [atm,atmL]) (by simp (disch:=first|omega|(simp only[ln];omega)) [g0d,g4d,g5d,g7d,g10d,g12d,g13d]) (by simp) ?_
            simp only [puts_some,updo]
            refine .e ?_ (by simp (disch:=first|omega|(simp only[ln];omega)) [g0d,g4d,g5d,g7d,g10d,g12d,g13d]; rfl)
            refine hK30 _ ?_
            refine .sq fun K31 hK31=>?_
            refine .q ?_ (by simp (disch:=first|omega|(simp only[ln];omega)) [negM]; rfl)
            refine .c (t:=false) (fun h92=>?_) (fun h92=>?_)
            ·simp at h92
            ·try simp only[dc]at h92
             refine .skip ?_
             refine hK31 _ ?_
             refine .sq fun K33 hK33=>?_
             refine .q ?_ (by simp (disch:=first|omega|(simp only[ln];omega)) [g0d,g4d,g5d,g7d,g10d,g12d,g13d]; rfl)
             refine .c (t:=false) (fun h95=>?_) (fun h95=>?_)
             ·simp at h95
             ·try simp only[dc]at h95
              refine .skip ?_
              refine hK33 _ ?_
              refine .q ?_
              refine .ret ?_
              exact hK _ _ _ _ trivial ((Fin.m))
          refine .region ?_
          refine .kf 1 (toSegS_fc L k2) hb59 ?_ (by simp (disch:=first|omega|(simp only[ln];omega)) [List.take_succ_cons,List.take_zero,g0b,g4b,g5b,g7b,g8b,g10b]; rfl) (ha:=by simp (disch:=first|omega|(simp only[ln];omega)) [idf_Wd',g0b,g4b,g5b,g7b,g8b,g10b])
          refine AOPS.lacall 4 (own1 _) rfl rfl rfl hb32 (by simp (disch:=first|omega|(simp only[ln];omega)) [lv,idf_Wd',lv_sp,lv_sg,lv_m2,lv_int,lv_bool,lv_nsl,List.map_map,List.length_map,hLl,tkL,mkR_len,↓lv_hitR4,lv_bool,lv_int,g0b,g4b,g5b,g7b,g8b,g10b,g0b,g4b,g5b,g7b,g8b,g10b]) (fun r H nx' h=>by obtain ⟨ix,f,rfl,hN,hw⟩:=h; exact ⟨⟨hN.ixr.1,trivial,trivial⟩,hw⟩) (by simp (disch:=first|omega|(simp only[ln];omega)) [g0b,g4b,g5b,g7b,g8b,g10b]) (by simp) ?_
          rintro _ HM nx5 ⟨ih,f2,rfl,hNh,hw⟩ hle2
          simp only [] at hNh hle2
          simp only [puts_some,updo]
          refine .e ?_ (by simp (disch:=first|omega|(simp only[ln];omega)) [g0b,g4b,g5b,g7b,g8b,g10b]; rfl)
          refine J26 _ ?_
          refine ⟨ig,lo,hi,ih,mm,nx5,f,f2,hN.mono (Nat.le_refl _) (fun k h1 h2=>by simp [hjoin]; omega),hNh.mono (Nat.le_refl _) (fun k h1 h2=>by simp [hjoin]; omega),?_,?_,?_,?_,?_,?_,?_,rfl⟩ <;> first|(simp (disch:=omega) [g0b,g4b,g5b,g7b,g8b,g10b];done)|omega|(simp;done)|(simp;omega)|assumption
       refine .region ?_
       refine .k 2 ?_ (by simp (disch:=first|omega|(simp only[ln];omega)) [List.take_succ_cons,List.take_zero,g0a,g4a,g5a,g7a,g8a,g9a]; rfl)
       refine .a (markHitS_nest m ig lo hi f (hcC L) (hcZ L) 1 _ _ (hcC_len L) hN (by first|omega|(simp;omega)) (by omega) (by omega) (by omega) (hcZ_len z1)) hb61 ?_ (ha:=by simp (disch:=first|omega|(simp only[ln];omega)) [idf_Wd',g0a,g4a,g5a,g7a,g8a,g9a])
       rintro _ H2 nx4 ⟨rfl,hN2,hfr,hle⟩
       simp only [] at hle
       rw [← hM]
       refine .e ?_ (by simp (disch:=first|omega|(simp only[ln];omega)) [g0a,g4a,g5a,g7a,g8a,g9a]; rfl)
       refine J19 _ ?_
       refine ⟨ig,lo,hi,f,hN2,by show hi ≤ nx4; omega,?_,?_,?_,?_,?_,?_,rfl⟩ <;> first|(simp (disch:=omega) [g0a,g4a,g5a,g7a,g8a,g9a];done)|omega|(simp;done)|(simp;omega)|assumption
     refine .region ?_
     refine .k 2 ?_ (by simp (disch:=first|omega|(simp only[ln];omega)) [List.take_succ_cons,List.take_zero,g0,g4,g5,g6,g7,g8,HX]; rfl)
     refine .a (markSegS_ac n ix (L.map Sg.cells) 1 _ _ (by simp (disch:=omega) [HX]) (by rw [List.length_map]; exact hLl) (sgrow_len L) (by omega) (by omega) (by omega)) hb54 ?_ (ha:=by simp (disch:=first|omega|(simp only[ln];omega)) [idf_Wd',g0,g4,g5,g6,g7,g8,HX])
     rintro _ _ _ ⟨rfl,rfl,rfl⟩
     refine .e ?_ (by simp (disch:=first|omega|(simp only[ln];omega)) [g0,g4,g5,g6,g7,g8,HX]; rfl)
     refine J15 _ ?_
     refine ⟨ig,lo,_,f,hN.mono (Nat.le_refl _) (fun k h1 h2=>by simp [hupd]; omega),Nat.le_refl _,?_,?_,?_,?_,?_,?_,rfl⟩ <;> first|(simp (disch:=omega) [g0,g4,g5,g6,g7,g8,HX];done)|omega|(simp;done)|(simp;omega)|assumption
  refine .region ?_
  refine .k 1 ?_
  refine AOPS.lacall 4 (own1 _) rfl rfl rfl hb32 (by simp (disch:=first|omega|(simp only[ln];omega)) [lv,idf_Wd',lv_sp,lv_sg,lv_m2,lv_int,lv_bool,lv_nsl,List.map_map,List.length_map,hLl,tkL,mkR_len,↓lv_hitR4,lv_bool,lv_int]) (fun r H nx' h=>by obtain ⟨ix,f,rfl,hN,hw⟩:=h; exact ⟨⟨hN.ixr.1,trivial,trivial⟩,hw⟩) (by simp (disch:=first|omega|(simp only[ln];omega))) (by simp) ?_
  rintro _ HN nx3 ⟨ig,f,rfl,hN,hw⟩ hle
  simp only [] at hN hle
  simp only [puts_some,updo]
  refine .e ?_
  refine J9 _ ?_
  refine ⟨ig,nx2,f,hN.mono (Nat.le_refl _) (fun k h1 h2=>by simp [hjoin]; omega),by omega,?_,?_,?_,?_,?_,?_,?_,?_,rfl⟩ <;> first|(simp (disch:=omega) [hjoin,hupd,nx2b];done)|omega|(simp;done)|(simp;omega)
set_option maxHeartbeats 8000000 in
theorem fnExactHitsOf_no (L : List Sg) (hl : L.length ≤ 9223372036854775807) (hz : ¬ sgF L = 0) : FC Tryz.prog 10 [.isl (L.map Sg.cells)] (.bool true):=by
 refine .b Tryz.func10 96 (fun nx K hK=>?_) (hi:=by simp [idfL,idf,idfLL_iff,Sg.cells,Pt.av,Pt.cells])
 refine .q ?_
 refine .q ?_
 refine .sq fun K3 hK3=>?_
 refine .region ?_
 refine .kf 2 (szSegS_fc L 1048576 (by omega) (by omega) hl) hb58 ?_
 refine .e ?_
 refine hK3 _ ?_
 refine .sq fun K4 hK4=>?_
 refine .q ?_
 refine .c (t:=decide (szN L.length 1048576 < 0)) (fun h18=>?_) (fun h18=>?_)
 ·try simp only[dc]at h18
  refine .q ?_
  refine .ret ?_
  exact hK _ _ _ _ trivial ((Fin.m))
 ·try simp only[dc]at h18
  obtain ⟨k1,_⟩:=szN_le h18
  have k2 : L.length ≤ 1048576:=by omega
  have k3 : L.length ≤ 1099511627776:=by omega
  obtain ⟨n,hLl⟩ : ∃ n,L.length = n:=⟨_,rfl⟩
  have tkL : List.take n (L.map Sg.cells) = L.map Sg.cells:=List.take_of_length_le (by rw [List.length_map]; omega)
  have own0:=fun nx=>toSegS_own L k2 nx
  rw [hLl] at own0
  have neg4 : decide (1 + 4 * (n : Int) < 0) = false:=by simp; omega
  refine .skip ?_
  refine hK4 _ ?_
  refine .sq fun K7 hK7=>?_
  refine .region ?_
  refine .kf 1 (toSegS_fc L k2) hb59 ?_
  refine .f (hitsS_no L k3 hz) hb42 ?_
  refine .e ?_
  refine hK7 _ ?_
  refine .sq fun K8 hK8=>?_
  refine .region ?_
  refine .k 1 ?_
  refine AOPS.ocallL 4 (own0 _) rfl rfl rfl hb59 (by simp (disch:=first|omega|(simp only[ln];omega)) [lv,idf_Wd',lv_sp,lv_sg,lv_m2,lv_int,lv_bool,lv_nsl,List.map_map,List.length_map,hLl,tkL]) (⟨fun _ h=>by simp [nwr,nwrL]; try exact h,by simp [nwr,nwrL,Sg.cells]⟩) (by simp (disch:=first|omega|(simp only[ln];omega))) (by simp) ?_
  intro ix nx2 nx2a nx2b
  simp only [] at nx2a nx2b
  simp only [puts_some,updo]
  refine .e ?_
  refine hK8 _ ?_
  refine .sq fun K9 hK9=>?_
  refine .region ?_
  refine .k 1 ?_
  refine AOPS.lcall 4 (hitsOf_no L k3 hz) rfl rfl rfl hb32 (by simp (disch:=first|omega|(simp only[ln];omega)) [lv,idf_Wd',lv_sp,lv_sg,lv_m2,lv_int,lv_bool,lv_nsl,List.map_map,List.length_map,hLl,tkL]) (by simp [atm,atmL]) (by simp (disch:=first|omega|(simp only[ln];omega))) (by simp) ?_
  simp only [puts_some,updo]
  refine .e ?_
  refine hK9 _ ?_
  refine .sq fun K10 hK10=>?_
  refine .sq fun K11 hK11=>?_
  refine .region ?_
  refine .kf 2 eqHitS_nil hb60 ?_
  refine .e ?_
  refine hK11 _ ?_
  refine .c (t:=false) (fun h40=>?_) (fun h40=>?_)
  ·simp at h40
  ·try simp only[dc]at h40
   refine .skip ?_
   refine hK10 _ ?_
   refine .sq fun K12 hK12=>?_
   refine .sq fun K13 hK13=>?_
   refine .region ?_
   refine .kf 2 (toSegS_fc L k2) hb59 ?_ (by simp (disch:=first|omega|(simp only[ln];omega)) [List.take_succ_cons,List.take_zero,hLl]; rfl) (ha:=by simp (disch:=first|omega|(simp only[ln];omega)) [idf_Wd',hLl])
   refine AOPS.lcall 4 (eqSegS_fc L hl) rfl rfl rfl hb51 (by simp (disch:=first|omega|(simp only[ln];omega)) [lv,idf_Wd',lv_sp,lv_sg,lv_m2,lv_int,lv_bool,lv_nsl,List.map_map,List.length_map,hLl,tkL,hLl]) (by simp [atm,atmL]) (by simp (disch:=first|omega|(simp only[ln];omega)) [hLl]) (by simp) ?_
   simp only [puts_some,updo]
   refine .e ?_ (by simp (disch:=first|omega|(simp only[ln];omega)) [hLl]; rfl)
   refine hK13 _ ?_
   refine .c (t:=false) (fun h45=>?_) (fun h45=>?_)
   ·simp at h45
   ·try simp only[dc]at h45
    refine .skip ?_
    refine hK12 _ ?_
    refine .q ?_
    refine .sq fun K15 hK15=>?_
    have J15 : ∀ s : St,(s.env 0 = .isl (L.map Sg.cells) ∧ s.env 4 = .nsl ∧ s.env 5 = .bool false ∧ s.env 7 = .nsl ∧ s.env 8 = .bool false ∧ s.env 9 = .int .i64 (1 + 4 * (n : Int)) ∧ s.nt = 96) → K15 s:=by
     rintro ⟨e0,H,mm,nt⟩ ⟨g0,g4,g5,g7,g8,g9,rfl⟩
     simp only [] at g0 g4 g5 g7 g8 g9
     refine hK15 _ ?_
     refine .sq fun K16 hK16=>?_
     refine .sq fun K17 hK17=>?_
     refine .region ?_
     refine .kf 5 eqHitS_nil hb60 ?_ (by simp (disch:=first|omega|(simp only[ln];omega)) [List.take_succ_cons,List.take_zero,g0,g4,g5,g7,g8,g9,neg4]; rfl) (ha:=by simp (disch:=first|omega|(simp only[ln];omega)) [idf_Wd',g0,g4,g5,g7,g8,g9,neg4])
     refine .e ?_ (by simp (disch:=first|omega|(simp only[ln];omega)) [g0,g4,g5,g7,g8,g9,neg4]; rfl)
     refine hK17 _ ?_
     refine .c (t:=false) (fun h61=>?_) (fun h61=>?_)
     ·simp at h61
     ·try simp only[dc]at h61
      refine .skip ?_
      refine hK16 _ ?_
      refine .q ?_
      refine .sq fun K19 hK19=>?_
      refine .region ?_
      refine .kf 2 (markHitS_nil 1) hb61 ?_ (by simp (disch:=first|omega|(simp only[ln];omega)) [List.take_succ_cons,List.take_zero,g0,g4,g5,g7,g8,g9]; rfl) (ha:=by simp (disch:=first|omega|(simp only[ln];omega)) [idf_Wd',g0,g4,g5,g7,g8,g9])
      refine .e ?_ (by simp (disch:=first|omega|(simp only[ln];omega)) [g0,g4,g5,g7,g8,g9]; rfl)
      refine hK19 _ ?_
      refine .q ?_
      refine .sq fun K21 hK21=>?_
      refine .region ?_
      refine .kf 2 (heldHitS_nil 1) hb62 ?_ (by simp (disch:=first|omega|(simp only[ln];omega)) [List.take_succ_cons,List.take_zero,g0,g4,g5,g7,g8,g9]; rfl) (ha:=by simp (disch:=first|omega|(simp only[ln];omega)) [idf_Wd',g0,g4,g5,g7,g8,g9])
      refine .e ?_ (by simp (disch:=first|omega|(simp only[ln];omega)) [g0,g4,g5,g7,g8,g9]; rfl)
      refine hK21 _ ?_
      refine .sq fun K22 hK22=>?_
      refine .q ?_
      refine .c (t:=false) (fun h69=>?_) (fun h69=>?_)
      ·simp at h69
      ·try simp only[dc]at h69
       refine .skip ?_
       refine hK22 _ ?_
       refine .sq fun K24 hK24=>?_
       refine .q ?_
       refine .c (t:=false) (fun h72=>?_) (fun h72=>?_)
       ·simp at h72
       ·try simp only[dc]at h72
        refine .skip ?_
        refine hK24 _ ?_
        refine .sq fun K26 hK26=>?_
        refine .region ?_
        refine .kf 1 (toSegS_fc L k2) hb59 ?_ (by simp (disch:=first|omega|(simp only[ln];omega)) [List.take_succ_cons,List.take_zero,g0,g4,g5,g7,g8,g9]; rfl) (ha:=by simp (disch:=first|omega|(simp only[ln];omega)) [idf_Wd',g0,g4,g5,g7,g8,g9])
        refine .f (hitsOf_no L k3 hz) hb32 ?_ (ha:=by simp (disch:=first|omega|(simp only[ln];omega)) [idf_Wd',g0,g4,g5,g7,g8,g9])
        refine .e ?_ (by simp (disch:=first|omega|(simp only[ln];omega)) [g0,g4,g5,g7,g8,g9]; rfl)
        refine hK26 _ ?_
        refine .sq fun K27 hK27=>?_
        refine .sq fun K28 hK28=>?_
        refine .region ?_
        refine .kf 2 eqHitS_nil hb60 ?_ (by simp (disch:=first|omega|(simp only[ln];omega)) [List.take_succ_cons,List.take_zero,g0,g4,g5,g7,g8,g9]; rfl) (ha:=by simp (disch:=first|omega|(simp only[ln];omega)) [idf_Wd',g0,g4,g5,g7,g8,g9])
        refine .e ?_ (by simp (disch:=first|omega|(simp only[ln];omega)) [g0,g4,g5,g7,g8,g9]; rfl)
        refine hK28 _ ?_
        refine .c (t:=false) (fun h87=>?_) (fun h87=>?_)
        ·simp at h87
        ·try simp only[dc]at h87
         refine .skip ?_
         refine hK27 _ ?_
         refine .q ?_
         refine .sq fun K30 hK30=>?_
         refine .region ?_
         refine .kf 2 (heldHitS_nil 1) hb62 ?_ (by simp (disch:=first|omega|(simp only[ln];omega)) [List.take_succ_cons,List.take_zero,g0,g4,g5,g7,g8,g9]; rfl) (ha:=by simp (disch:=first|omega|(simp only[ln];omega)) [idf_Wd',g0,g4,g5,g7,g8,g9])
         refine .e ?_ (by simp (disch:=first|omega|(simp only[ln];omega)) [g0,g4,g5,g7,g8,g9]; rfl)
         refine hK30 _ ?_
         refine .sq fun K31 hK31=>?_
         refine .q ?_
         refine .c (t:=false) (fun h92=>?_) (fun h92=>?_)
         ·simp at h92
         ·try simp only[dc]at h92
          refine .skip ?_
          refine hK31 _ ?_
          refine .sq fun K33 hK33=>?_
          refine .q ?_
          refine .c (t:=false) (fun h95=>?_) (fun h95=>?_)
          ·simp at h95
          ·try simp only[dc]at h95
           refine .skip ?_
           refine hK33 _ ?_
           refine .q ?_
           refine .ret ?_
           exact hK _ _ _ _ trivial ((Fin.m))
    refine .region ?_
    refine .k 2 ?_
    refine .a (markSegS_ac n ix (L.map Sg.cells) 1 _ _ (by simp (disch:=omega)) (by rw [List.length_map]; exact hLl) (sgrow_len L) (by omega) (by omega) (by omega)) hb54 ?_
    rintro _ _ _ ⟨rfl,rfl,rfl⟩
    refine .e ?_
    refine J15 _ ?_
    refine ⟨?_,?_,?_,?_,?_,?_,rfl⟩ <;> first|(simp (disch:=omega) [];done)|omega|(simp;done)|(simp;omega)|assumption
end
theorem fnExactHitsOf_fc (L : List Sg) (hl : L.length ≤ 9223372036854775807) : FC Tryz.prog 10 [.isl (L.map Sg.cells)] (.bool true):=by
  by_cases hz : sgF L = 0
  · exact fnExactHitsOf_yes L hl hz
  · exact fnExactHitsOf_no L hl hz

end Go.Proofs.YtaibemhdfhchfaaGreat
