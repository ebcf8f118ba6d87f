/- Walks: the hits of right segments, as blocks of one's own. -/
import Derived.Test.YtaibemhdfhchfaaGreatG19

namespace Go.Proofs.YtaibemhdfhchfaaGreat
open Go Go.RowKit
set_option linter.unusedSimpArgs false
set_option linter.unusedVariables false
set_option maxRecDepth 100000
attribute [local simp] szT2 byT2 agT2 unT2 zoT2 szT3 byT3 agT3 unT3 zoT3 szT24 byT24 agT24 elT24 unT24 zoT24 szT27 byT27 agT27 flT27 fdT27_0 fdT27_1 fdT27_2 fdT27_3 zoT27 szT29 byT29 agT29 flT29 fdT29_0 fdT29_1 fdT29_2 zoT29 szT32 byT32 agT32 elT32 unT32 zoT32 szT38 byT38 agT38 flT38 fdT38_0 fdT38_1 zoT38 szT40 byT40 agT40 flT40 fdT40_0 fdT40_1 zoT40 szT54 byT54 agT54 elT54 unT54 zoT54 szT60 byT60 agT60 flT60 fdT60_0 fdT60_1 zoT60 szT188 byT188 agT188 elT188 unT188 zoT188 szT235 byT235 agT235 unT235 zoT235

theorem mkR_zero (f : Nat → List AV) : mkR f 0 = []:=rfl
theorem nwr_wdZ (nx : Nat) (l : List Int) : ∀ r ∈ wd .i64 l,nwrL nx r:=by intro r h; obtain ⟨x,_,rfl⟩:=List.mem_map.1 h; exact ⟨trivial,trivial⟩
theorem gpq_get {L : List Sg} {j : Nat} (h : j < (hitP L).length) : (hitP L)[j]? = some (gpq L j):=by unfold gpq; rw [List.getD_eq_getElem?_getD,List.getElem?_eq_getElem h]; rfl
theorem hn_fr {f : Nat → Nat} {H' : Heap} {nx m0 m2 j id : Nat} {Z : Nat → List Int} (h : ∀ q,q < j → nx ≤ f q ∧ f q < m0 ∧ H' (f q) = some (1,wd .i64 (Z q))) (h1 : m0 ≤ id) (h2 : id < m2) (h0 : nx ≤ m0) (hx : H' id = some (1,wd .i64 (Z j))) : ∀ q,q < j + 1 → nx ≤ fset f j id q ∧ fset f j id q < m2 ∧ H' (fset f j id q) = some (1,wd .i64 (Z q)):=by
  intro q hq
  unfold fset
  by_cases e : q = j
  · subst e; rw [if_pos rfl]; exact ⟨by omega,h2,hx⟩
  · rw [if_neg e]
    obtain ⟨a,b,c⟩:=h q (by omega)
    exact ⟨a,by omega,c⟩
theorem hn_inj {f : Nat → Nat} {j id m : Nat} (hfr : ∀ q,q < j → f q < m) (hid : m ≤ id) (hinj : ∀ a b,a < j → b < j → f a = f b → a = b) : ∀ a b,a < j + 1 → b < j + 1 → fset f j id a = fset f j id b → a = b:=nst_inj hfr hid hinj
theorem hn_done {H : Heap} {nx nx' ix n : Nat} {f : Nat → Nat} {c : Nat → List AV} {z : Nat → List Int} (hc : ∀ i,∀ x ∈ c i,∃ n : Int,x = .int .u64 n) (hx : nx ≤ ix ∧ ix < nx') (ho : H ix = some (13,mkR (hnR f c z) n)) (hr : ∀ q,q < n → nx ≤ f q ∧ f q < nx' ∧ H (f q) = some (1,wd .i64 (z q))) (hne : ∀ q,q < n → f q ≠ ix) (hinj : ∀ a b,a < n → b < n → f a = f b → a = b) :
    ∃ ix' f',AV.osl ix 0 n = .osl ix' 0 n ∧ HNst (hrestr (nsP ix n f) H) nx nx' ix' f' n c z ∧ ∀ k q,hrestr (nsP ix n f) H k = some q → ∀ l ∈ q.2,nwrL nx l :=
  ⟨ix,f,rfl,hn_restr hc ⟨hx,fun q hq=>⟨(hr q hq).1,(hr q hq).2.1,hne q hq⟩,hinj,ho,fun q hq=>(hr q hq).2.2⟩⟩
theorem hn_ne {f : Nat → Nat} {j id ia m0 : Nat} (h : ∀ q,q < j → f q < m0) (h1 : m0 ≤ ia) (h2 : ia ≠ id) : ∀ q,q < j + 1 → fset f j id q ≠ ia:=by
  intro q hq
  unfold fset
  by_cases e : q = j
  · rw [if_pos e]; exact fun h=>h2 h.symm
  · rw [if_neg e]; have:=h q (by omega); omega

section
attribute [local simp] idf_numS cells_numS numS_fold idf_numI cells_numI numI_fold Sp.av Sp.cells Sg.av Sg.cells Pt.av Pt.cells
set_option maxHeartbeats 8000000 in
theorem hits_nest (S : List Sg) (z1 : S.length ≤ 40) (z2 : ∀ s ∈ S,s.good = true) (nx : Nat) : ACall Tryz.prog 118 [.isl (S.map Sg.cells)] (fun _=>none) nx (fun r H nx'=>∃ ix f,r = .osl ix 0 (hitP S).length ∧ HNst H nx nx' ix f (hitP S).length (hcC S) (hcZ S) ∧ ∀ k q,H k = some q → ∀ l ∈ q.2,nwrL nx l):=by
 refine .mb okG kvG Tryz.func118 77 fun K hK=>?_
 refine .q ?_
 refine .sq fun K2 hK2=>?_
 refine .region ?_
 refine .make rfl (by simp) rfl (by simp) fun m hmn=>?_
 refine .k 5 ?_
 refine .e ?_ (by simp (disch:=first|omega|(simp only[ln];omega)) [zoM,szM,agM,avCM,avOM]; rfl)
 refine .nil ?_
 refine hK2 _ _ ?_
 refine .q ?_
 refine .sq fun K4 hK4=>?_
 refine .q ?_ (by simp (disch:=first|omega|(simp only[ln];omega)) [List.length_map]; rfl)
 refine .block ?_
 
 refine .loop (fun N s MM=>∃ i : Nat,∃ A : List GP,∃ mid : Nat,∃ pid : Nat,∃ did : Nat,N = S.length - i ∧ i ≤ S.length ∧ (nx ≤ s.nx) ∧ (A = ded (seqM S i)) ∧ (MM m = some (memF A)) ∧ (mid ≠ pid) ∧ (did ≠ pid) ∧ (did ≠ mid) ∧ s.env 0 = .isl (S.map Sg.cells) ∧ s.env 4 = .ptr pid 0 0 ∧ s.env 5 = .fn 201 [.ptr mid 0 0,.ptr pid 0 0] ∧ s.env 19 = .isl (S.map Sg.cells) ∧ s.env 20 = .int .i64 (S.length : Int) ∧ s.env 21 = .int .i64 (i : Int) ∧ s.heap mid = some (1,[[.raw (.map (some m))]]) ∧ mid < s.nx ∧ s.heap pid = some (1,[[.osl did 0 A.length]]) ∧ pid < s.nx ∧ s.heap did = some (12,A.map cellsG) ∧ did < s.nx ∧ s.nt = 77) (S.length) (by refine ⟨0,[],(nx + 1),(nx + 1 + 1),nx,by omega,by omega,by first|omega|(simp;omega),rfl,by simp; rfl,by omega,by omega,by omega,?_,?_,?_,?_,?_,?_,?_,?_,?_,?_,?_,?_,rfl⟩ <;> first|(simp (disch:=omega);done)|omega|(simp;done)|(simp;omega)) ?_
 rintro N ⟨e,H,mm,nt⟩ MM ⟨i,A,mid,pid,did,rfl,hi,hnx0,hA,hMM,n1,n2,n3,g0,g4,g5,g19,g20,g21,Hm,xm,Hp,xp,Hd,xd,rfl⟩
 simp only [] at g0 g4 g5 g19 g20 g21 Hm xm Hp xp Hd xd
 simp only [] at hnx0
 refine .q ?_ (by simp (disch:=first|omega|(simp only[ln];omega)) [g20,g21]; rfl)
 refine .sq fun K7 hK7=>?_
 refine .c (fun h22=>?_) (fun h22=>?_)
 ·try simp only[dc]at h22
  have hi' : i < S.length:=by omega
  have hat:=gq_get hi'
  obtain ⟨s0,hs0⟩ : ∃ s0,s0 = gq S i:=⟨_,rfl⟩
  have gs:=z2 _ (gq_mem hi')
  rw [← hs0] at gs
  have hat2 : (S.map Sg.cells)[i]? = some (Sg.cells s0):=by rw [List.getElem?_map,hat,hs0]; rfl
  have hae2 : ∀ h : i < (S.map Sg.cells).length,(S.map Sg.cells)[i] = Sg.cells s0:=fun h=>by rw [List.getElem?_eq_getElem h] at hat2; simpa using hat2
  have hAb:=ded_b z1 (Nat.le_of_lt hi')
  rw [← hA] at hAb
  obtain ⟨ga,hga⟩ : ∃ g,g = toG (ptS s0.a):=⟨_,rfl⟩
  have vga : ga.1 = ptS s0.a:=by rw [hga]; exact toG_val (pt3_ok _ _ _) (ptS_gd (good_a gs))
  have oga : FC Tryz.prog 46 [s0.a.av] (.agg (Pt.cells ga.1)):=by rw [vga]; exact pointOfI_fc s0.a (good_a gs)
  obtain ⟨gb,hgb⟩ : ∃ g,g = toG (ptS s0.b):=⟨_,rfl⟩
  have vgb : gb.1 = ptS s0.b:=by rw [hgb]; exact toG_val (pt3_ok _ _ _) (ptS_gd (good_b gs))
  have ogb : FC Tryz.prog 46 [s0.b.av] (.agg (Pt.cells gb.1)):=by rw [vgb]; exact pointOfI_fc s0.b (good_b gs)
  refine .skip ?_
  refine hK7 _ _ ?_
  refine .sq fun K8 hK8=>?_
  refine .block ?_
  refine .q ?_ (by simp (disch:=first|omega|(simp only[ln];omega)) [if_pos,g0,g4,g5,g19,g20,g21,Hm,Hp,Hd,hat2,hae2,hi',List.length_map]; rfl)
  refine .sq fun K10 hK10=>?_
  refine MWP.frz1 7 mm 4 [[.int .i64 s0.a.x,.int .i64 s0.a.y,.int .i64 s0.b.x,.int .i64 s0.b.y]] (.ip [.int .i64 s0.a.x,.int .i64 s0.a.y,.int .i64 s0.b.x,.int .i64 s0.b.y]) (by simp (disch:=omega) [Sg.cells]) (by simp (disch:=omega) [fz,Sg.cells]) ?_
  refine .region ?_
  refine .k 4 ?_
  refine .kf 3 oga hb46 ?_ (by simp (disch:=first|omega|(simp only[ln];omega)) [List.take_succ_cons,List.take_zero,g0,g4,g5,g19,g20,g21,Hm,Hp,Hd]; rfl) (ha:=by simp (disch:=first|omega|(simp only[ln];omega)) [idf_Wd',g0,g4,g5,g19,g20,g21,Hm,Hp,Hd])
  refine .nil ?_
  refine .mcall (add_mc A ga m mid pid did _ _ _ (by simp (disch:=omega) [Hm]) (by simp (disch:=omega) [Hp]) (by simp (disch:=omega) [Hd]) (by first|omega|(simp;omega)) (by first|omega|(simp;omega)) (by first|omega|(simp;omega)) n1 n2 n3 hMM (by omega)) rfl rfl (by simp (disch:=omega) [g5]; rfl) hb201 (by simp (disch:=omega) [g5,Pt.cells]) (by simp) (by simp) ?_
  rintro _ H1 nx1 M1 ⟨rfl,hn1,hm1,⟨d1,xd1,na1,nb1,hp1,hd1⟩,hM1⟩
  simp only [] at hn1
  simp only [puts_none,puts_some]
  refine .nil ?_
  refine hK10 _ _ ?_
  refine .sq fun K11 hK11=>?_
  refine .region ?_
  refine .k 4 ?_
  refine .kf 3 ogb hb46 ?_ (by simp (disch:=first|omega|(simp only[ln];omega)) [List.take_succ_cons,List.take_zero,g0,g5,hm1,hp1,hd1]; rfl) (ha:=by simp (disch:=first|omega|(simp only[ln];omega)) [idf_Wd',g0,g5,hm1,hp1,hd1])
  refine .nil ?_
  have hAb1:=(addP_len A ga).2
  refine .mcall (add_mc (addP A ga) gb m mid pid d1 _ _ _ (by simp (disch:=omega) [hm1]) (by simp (disch:=omega) [hp1]) (by simp (disch:=omega) [hd1]) (by first|omega|(simp;omega)) (by first|omega|(simp;omega)) (by first|omega|(simp;omega)) n1 nb1 na1 hM1 (by omega)) rfl rfl (by simp (disch:=omega) [g5]; rfl) hb201 (by simp (disch:=omega) [g5,Pt.cells]) (by simp) (by simp) ?_
  rintro _ H2 nx2 M2 ⟨rfl,hn2,hm2,⟨d2,xd2,na2,nb2,hp2,hd2⟩,hM2⟩
  simp only [] at hn2
  simp only [puts_none,puts_some]
  refine .nil ?_
  refine hK11 _ _ ?_
  refine .q ?_ (by simp (disch:=first|omega|(simp only[ln];omega)) [if_pos,g0,hi,List.length_take,Nat.min_eq_left,List.length_map]; rfl)
  have hB0 : addP (addP A ga) gb = ded (seqM S i ++ [ga] ++ [gb] ++ rowM S i 0):=by rw [rowM,List.append_nil,ded_snoc,ded_snoc,hA]
  refine .block ?_
  
  refine .loop (fun N s MM=>∃ k : Nat,∃ B : List GP,∃ did : Nat,N = i - k ∧ k ≤ i ∧ (nx ≤ s.nx) ∧ (B = ded (seqM S i ++ [ga] ++ [gb] ++ rowM S i k)) ∧ (MM m = some (memF B)) ∧ (did ≠ pid) ∧ (did ≠ mid) ∧ s.env 0 = .isl (S.map Sg.cells) ∧ s.env 4 = .ptr pid 0 0 ∧ s.env 5 = .fn 201 [.ptr mid 0 0,.ptr pid 0 0] ∧ s.env 19 = .isl (S.map Sg.cells) ∧ s.env 20 = .int .i64 (S.length : Int) ∧ s.env 21 = .int .i64 (i : Int) ∧ s.env 7 = .ip [.int .i64 s0.a.x,.int .i64 s0.a.y,.int .i64 s0.b.x,.int .i64 s0.b.y] ∧ s.env 38 = .isl (S.map Sg.cells |>.take i) ∧ s.env 39 = .int .i64 (i : Int) ∧ s.env 40 = .int .i64 (k : Int) ∧ s.heap mid = some (1,[[.raw (.map (some m))]]) ∧ mid < s.nx ∧ s.heap pid = some (1,[[.osl did 0 B.length]]) ∧ pid < s.nx ∧ s.heap did = some (12,B.map cellsG) ∧ did < s.nx ∧ s.nt = 77) (i) (by refine ⟨0,(addP (addP A ga) gb),d2,by omega,by omega,by first|omega|(simp;omega),hB0,hM2,nb2,na2,?_,?_,?_,?_,?_,?_,?_,?_,?_,?_,?_,?_,?_,?_,?_,?_,rfl⟩ <;> first|(simp (disch:=omega) [g0,g4,g5,g19,g20,g21,hm2,hp2,hd2];done)|omega|(simp;done)|(simp;omega)) ?_
  clear g0 g4 g5 g19 g20 g21 hMM
  rintro N ⟨e,H,mm,nt⟩ MM ⟨k,B,did,rfl,hk,hnx0,hB,hMM,n2,n3,g0,g4,g5,g19,g20,g21,g7,g38,g39,g40,Hm,xm,Hp,xp,Hd,xd,rfl⟩
  simp only [] at g0 g4 g5 g19 g20 g21 g7 g38 g39 g40 Hm xm Hp xp Hd xd
  simp only [] at hnx0
  refine .q ?_ (by simp (disch:=first|omega|(simp only[ln];omega)) [g39,g40]; rfl)
  refine .sq fun K14 hK14=>?_
  refine .c (fun h41=>?_) (fun h41=>?_)
  ·try simp only[dc]at h41
   have hk' : k < i:=by omega
   have hkL : k < S.length:=by omega
   have hatk0:=gq_get hkL
   have gk:=z2 _ (gq_mem hkL)
   have hatk : (S.map Sg.cells)[k]? = some (Sg.cells (gq S k)):=by rw [List.getElem?_map,hatk0]; rfl
   have haek : ∀ h : k < (S.map Sg.cells).length,(S.map Sg.cells)[k] = Sg.cells (gq S k):=fun h=>by rw [List.getElem?_eq_getElem h] at hatk; simpa using hatk
   have hmt:=meetI_fc s0 (gq S k) gs gk
   have hok:=mtF_ok s0 (gq S k)
   rw [mtF_good gs gk] at hok
   have hone:=meet_one gs gk
   obtain ⟨M,hM⟩ : ∃ M,meetI s0 (gq S k) = M:=⟨_,rfl⟩
   rw [hM] at hmt hok hone
   have hBb:=dedr_b z1 hi' (Nat.le_of_lt hk') ga gb
   rw [← hB] at hBb
   refine .skip ?_
   refine hK14 _ _ ?_
   refine .sq fun K15 hK15=>?_
   refine .block ?_
   refine .q ?_ (by simp (disch:=first|omega|(simp only[ln];omega)) [if_pos,g0,g4,g5,g19,g20,g21,g7,g38,g39,g40,Hm,Hp,Hd,hk',hatk,haek,List.getElem?_take,List.length_take,List.length_map]; rfl)
   refine .sq fun K17 hK17=>?_
   refine .up ?_
   refine .region ?_
   refine .kf 2 hmt hb104 ?_ (by simp (disch:=first|omega|(simp only[ln];omega)) [List.take_succ_cons,List.take_zero,g0,g4,g5,g19,g20,g21,g7,g38,g39,g40,Hm,Hp,Hd]; rfl) (ha:=by simp (disch:=first|omega|(simp only[ln];omega)) [idf_Wd',g0,g4,g5,g19,g20,g21,g7,g38,g39,g40,Hm,Hp,Hd])
   refine .e ?_ (by simp (disch:=first|omega|(simp only[ln];omega)) [g0,g4,g5,g19,g20,g21,g7,g38,g39,g40,Hm,Hp,Hd]; rfl)
   refine hK17 _ _ ?_
   refine .q ?_
   refine .c (t:=M.1 == 1) (fun h52=>?_) (fun h52=>?_)
   ·try simp only[dc]at h52
    have hm1' : M.1 = 1:=by simpa using h52
    have hmk : (meetI (gq S i) (gq S k)).1 = 1:=by rw [← hs0,hM]; exact hm1'
    obtain ⟨gp,hgp⟩ : ∃ g,g = toG M.2.1:=⟨_,rfl⟩
    have vgp : gp.1 = M.2.1:=by rw [hgp]; exact toG_val hok.1 (hone hm1').1
    have hgm : toG (meetI (gq S i) (gq S k)).2.1 = gp:=by rw [← hs0,hM,hgp]
    refine .region ?_
    refine .k 2 ?_
    refine .e ?_ (by simp (disch:=first|omega|(simp only[ln];omega)) [g0,g4,g5,g19,g20,g21,g7,g38,g39,g40,Hm,Hp,Hd]; rfl)
    refine .mcall (add_mc B gp m mid pid did _ _ _ (by simp (disch:=omega) [Hm]) (by simp (disch:=omega) [Hp]) (by simp (disch:=omega) [Hd]) (by first|omega|(simp;omega)) (by first|omega|(simp;omega)) (by first|omega|(simp;omega)) n1 n2 n3 hMM (by omega)) rfl rfl (by simp (disch:=omega) [g5]; rfl) hb201 (by simp (disch:=omega) [g5,Pt.cells,vgp]) (by simp) (by simp) ?_
    rintro _ H3 nx3 M3 ⟨rfl,hn3,hm3,⟨d3,xd3,na3,nb3,hp3,hd3⟩,hM3⟩
    simp only [] at hn3
    simp only [puts_none,puts_some]
    refine .nil ?_
    refine hK15 _ _ ?_
    refine .up ?_
    refine .r ?_ (by simp (disch:=first|omega|(simp only[ln];omega)) [g40]; rfl)
    refine ⟨i - (k + 1),by omega,k + 1,(addP B gp),d3,rfl,by omega,by first|omega|(simp;omega),by rw [rowM_yes hmk,← hB,hgm],hM3,nb3,na3,?_,?_,?_,?_,?_,?_,?_,?_,?_,?_,?_,?_,?_,?_,?_,?_,rfl⟩ <;> first|(simp (disch:=omega) [g0,g4,g5,g19,g20,g21,g7,g38,g39,g40,Hm,Hp,Hd,hm3,hp3,hd3];done)|omega|(simp;done)|(simp;omega)
   ·try simp only[dc]at h52
    have hmk : ¬ (meetI (gq S i) (gq S k)).1 = 1:=by rw [← hs0,hM]; simpa using h52
    refine .skip ?_
    refine hK15 _ _ ?_
    refine .up ?_
    refine .r ?_ (by simp (disch:=first|omega|(simp only[ln];omega)) [g40]; rfl)
    refine ⟨i - (k + 1),by omega,k + 1,B,did,rfl,by omega,by first|omega|(simp;omega),by rw [rowM_no hmk]; exact hB,hMM,n2,n3,?_,?_,?_,?_,?_,?_,?_,?_,?_,?_,?_,?_,?_,?_,?_,?_,rfl⟩ <;> first|(simp (disch:=omega) [g0,g4,g5,g19,g20,g21,g7,g38,g39,g40,Hm,Hp,Hd];done)|omega|(simp;done)|(simp;omega)
  ·try simp only[dc]at h41
   have hki : k = i:=by omega
   have hB' : B = ded (seqM S (i + 1)):=by rw [hB,hki,← seqM_step,← hs0,← hga,← hgb]
   have hMM1:=hMM
   refine .exit ?_
   refine hK8 _ _ ?_
   refine .up ?_
   refine .r ?_ (by simp (disch:=first|omega|(simp only[ln];omega)) [g21]; rfl)
   refine ⟨S.length - (i + 1),by omega,i + 1,B,mid,pid,did,rfl,by omega,by first|omega|(simp;omega),hB',hMM1,n1,n2,n3,?_,?_,?_,?_,?_,?_,?_,?_,?_,?_,?_,?_,rfl⟩ <;> first|(simp (disch:=omega) [g0,g4,g5,g19,g20,g21,Hm,Hp,Hd];done)|omega|(simp;done)|(simp;omega)
 ·try simp only[dc]at h22
  have hin : i = S.length:=by omega
  subst hin
  have hAb:=ded_b z1 (Nat.le_refl _)
  rw [← hA] at hAb
  have hAn : (hitP S).length = A.length:=by rw [hitP_len,hA]
  have hsr:=srt_hits S
  rw [← hA] at hsr
  refine .exit ?_
  refine hK4 _ _ ?_
  refine .sq fun K19 hK19=>?_
  refine .up ?_
  refine .region ?_
  refine .k 1 ?_ (by simp (disch:=first|omega|(simp only[ln];omega)) [List.take_succ_cons,List.take_zero,g4,Hp,Hd]; rfl)
  refine .a (sortPt_ac (fun g : GP=>g.1) cmH 203 [] ⟨hb203,cmpH_fc⟩ ltH_swo A.toArray A.length did _ _ (by simp) Hd (by first|omega|(simp;done)|(simp;omega)) (by omega)) hb202 ?_ (ha:=by simp (disch:=first|omega|(simp only[ln];omega)) [idf_Wd',g4,Hp,Hd])
  rintro _ _ nx3 ⟨rfl,rfl,hn3⟩
  simp only [] at hn3
  rw [hsr]
  refine .nil ?_
  refine hK19 _ _ ?_
  refine .q ?_ (by simp (disch:=first|omega|(simp only[ln];omega)) [g0]; rfl)
  refine .sq fun K21 hK21=>?_
  refine .q ?_ (by simp (disch:=first|omega|(simp only[ln];omega)) [g4,Hp,n1,n2,n3]; rfl)
  have hfz : fz did ((hitP S).map cellsG) (.osl did 0 A.length) = .isl ((hitP S).map cellsG):=fz_fill cellsG (hitP S) hAn.symm
  refine MWP.frz1 61 did 12 ((hitP S).map cellsG) (.isl ((hitP S).map cellsG)) (by simp (disch:=omega)) (by simp (disch:=omega) [hfz]) ?_
  refine .block ?_
  
  refine .loop (fun N s MM=>∃ j : Nat,∃ f : Nat → Nat,∃ io : Nat,N = (hitP S).length - j ∧ j ≤ (hitP S).length ∧ (nx ≤ io) ∧ (∀ q,q < j → nx ≤ f q ∧ f q < s.nx ∧ s.heap (f q) = some (1,wd .i64 (hcZ S q))) ∧ (∀ q,q < j → f q ≠ io) ∧ (∀ a b,a < j → b < j → f a = f b → a = b) ∧ s.env 0 = .isl (S.map Sg.cells) ∧ s.env 13 = .osl io 0 j ∧ s.env 61 = .isl ((hitP S).map cellsG) ∧ s.env 62 = .int .i64 ((hitP S).length : Int) ∧ s.env 63 = .int .i64 (j : Int) ∧ s.heap io = some (13,mkR (hnR f (hcC S) (hcZ S)) j) ∧ io < s.nx ∧ s.nt = 77) ((hitP S).length) (by refine ⟨0,fun _=>0,nx3,by omega,by omega,by omega,fun q h=>by omega,fun q h=>by omega,fun a b h=>by omega,?_,?_,?_,?_,?_,?_,?_,rfl⟩ <;> first|(simp (disch:=omega) [g0,mkR_zero];done)|omega|(simp;done)|(simp;omega)) ?_
  clear g0 g4 g5 g19 g20 g21 hMM Hm Hp Hd
  rintro N ⟨e,H,mm,nt⟩ MM ⟨j,f,io,rfl,hj,hio,hrow,hne,hinj,g0,g13,g61,g62,g63,Ho,xo,rfl⟩
  simp only [] at g0 g13 g61 g62 g63 Ho xo
  simp only [] at hrow
  refine .q ?_ (by simp (disch:=first|omega|(simp only[ln];omega)) [g62,g63]; rfl)
  refine .sq fun K24 hK24=>?_
  refine .c (fun h64=>?_) (fun h64=>?_)
  ·try simp only[dc]at h64
   have hj' : j < (hitP S).length:=by omega
   obtain ⟨g,hgq⟩ : ∃ g,g = gpq S j:=⟨_,rfl⟩
   have hg : (hitP S)[j]? = some g:=by rw [hgq]; exact gpq_get hj'
   have hatj : ((hitP S).map cellsG)[j]? = some (cellsG g):=by rw [List.getElem?_map,hg]; rfl
   have haej : ∀ h : j < ((hitP S).map cellsG).length,((hitP S).map cellsG)[j] = cellsG g:=fun h=>by rw [List.getElem?_eq_getElem h] at hatj; simpa using hatj
   obtain ⟨Z,hZ⟩ : ∃ Z,Z = hcZ S j:=⟨_,rfl⟩
   have hZq : onL S g.1 = Z:=by rw [hZ,hgq]; rfl
   have own0:=fun nx=>hitAt_own S g.1 g.2.1 (by omega) z2 nx
   rw [hZq] at own0
   simp only [Pt.av,Pt.cells] at own0
   obtain ⟨C,hC⟩ : ∃ C,C = mkR (hnR f (hcC S) (hcZ S)) j:=⟨_,rfl⟩
   have hCl : C.length = j:=by rw [hC,mkR_len]
   rw [← hC] at Ho
   have hst : ∀ x,C ++ [[.int .u64 g.1.x.a,.int .u64 g.1.x.b,.int .u64 g.1.x.c,.int .u64 g.1.x.d,.int .u64 g.1.y.a,.int .u64 g.1.y.b,.int .u64 g.1.y.c,.int .u64 g.1.y.d,.int .u64 g.1.w.a,.int .u64 g.1.w.b,.int .u64 g.1.w.c,.int .u64 g.1.w.d,.osl x 0 Z.length]] = mkR (hnR (fset f j x) (hcC S) (hcZ S)) (j + 1):=fun x=>by
     have h:=hn_step (f:=f) (c:=hcC S) (z:=hcZ S) j x
     rw [← hZ,← hC] at h
     have e : hcC S j = Pt.cells g.1:=by rw [hgq]; rfl
     rw [e] at h
     exact h
   have hc1 : (C.length + 1) * 120 ≤ 140737488355328:=by omega
   have hc2 : C.length ≤ 9223372036854775806:=by omega
   have htk : List.take j C = C:=List.take_of_length_le (Nat.le_of_eq hCl)
   refine .skip ?_
   refine hK24 _ _ ?_
   refine .sq fun K25 hK25=>?_
   refine .block ?_
   refine .q ?_ (by simp (disch:=first|omega|(simp only[ln];omega)) [if_pos,g0,g13,g61,g62,g63,Ho,hatj,haej,hj',List.length_map,cellsG]; rfl)
   refine MWP.frz1 15 mm 12 [[.int .u64 g.1.x.a,.int .u64 g.1.x.b,.int .u64 g.1.x.c,.int .u64 g.1.x.d,.int .u64 g.1.y.a,.int .u64 g.1.y.b,.int .u64 g.1.y.c,.int .u64 g.1.y.d,.int .u64 g.1.w.a,.int .u64 g.1.w.b,.int .u64 g.1.w.c,.int .u64 g.1.w.d]] (.ip [.int .u64 g.1.x.a,.int .u64 g.1.x.b,.int .u64 g.1.x.c,.int .u64 g.1.x.d,.int .u64 g.1.y.a,.int .u64 g.1.y.b,.int .u64 g.1.y.c,.int .u64 g.1.y.d,.int .u64 g.1.w.a,.int .u64 g.1.w.b,.int .u64 g.1.w.c,.int .u64 g.1.w.d]) (by simp (disch:=omega)) (by simp (disch:=omega) [fz]) ?_
   refine .up ?_
   obtain ⟨m0,hm0⟩ : ∃ m0,m0 = mm + 1:=⟨_,rfl⟩
   refine AWP.inv Tryz.checked.mixed (by kernel_rfl) (fun L s=>(s.env 0 = .isl (S.map Sg.cells)) ∧ (s.env 15 = .ip [.int .u64 g.1.x.a,.int .u64 g.1.x.b,.int .u64 g.1.x.c,.int .u64 g.1.x.d,.int .u64 g.1.y.a,.int .u64 g.1.y.b,.int .u64 g.1.y.c,.int .u64 g.1.y.d,.int .u64 g.1.w.a,.int .u64 g.1.w.b,.int .u64 g.1.w.c,.int .u64 g.1.w.d]) ∧ (s.env 61 = .isl ((hitP S).map cellsG)) ∧ (s.env 62 = .int .i64 ((hitP S).length : Int)) ∧ (s.env 63 = .int .i64 (j : Int)) ∧ (s.nt = 77) ∧ (m0 ≤ s.nx) ∧ (∀ q,q < j → nx ≤ f q ∧ f q < m0 ∧ s.heap (f q) = some (1,wd .i64 (hcZ S q))) ∧ (L 0 = true → s.env 67 = .osl io 0 j) ∧ (L 1 = true → s.env 68 = .agg [.int .u64 g.1.x.a,.int .u64 g.1.x.b,.int .u64 g.1.x.c,.int .u64 g.1.x.d,.int .u64 g.1.y.a,.int .u64 g.1.y.b,.int .u64 g.1.y.c,.int .u64 g.1.y.d,.int .u64 g.1.w.a,.int .u64 g.1.w.b,.int .u64 g.1.w.c,.int .u64 g.1.w.d]) ∧ (L 2 = true → s.env 69 = .isl (S.map Sg.cells)) ∧ (L 3 = true → s.env 70 = .agg [.int .u64 g.1.x.a,.int .u64 g.1.x.b,.int .u64 g.1.x.c,.int .u64 g.1.x.d,.int .u64 g.1.y.a,.int .u64 g.1.y.b,.int .u64 g.1.y.c,.int .u64 g.1.y.d,.int .u64 g.1.w.a,.int .u64 g.1.w.b,.int .u64 g.1.w.c,.int .u64 g.1.w.d]) ∧ (L 4 = true → ∃ id1 : Nat,s.env 71 = .osl id1 0 Z.length ∧ s.heap id1 = some (1,wd .i64 Z) ∧ m0 ≤ id1 ∧ id1 < s.nx) ∧ (L 5 = true → ∃ id1 : Nat,s.env 72 = .agg [.int .u64 g.1.x.a,.int .u64 g.1.x.b,.int .u64 g.1.x.c,.int .u64 g.1.x.d,.int .u64 g.1.y.a,.int .u64 g.1.y.b,.int .u64 g.1.y.c,.int .u64 g.1.y.d,.int .u64 g.1.w.a,.int .u64 g.1.w.b,.int .u64 g.1.w.c,.int .u64 g.1.w.d,.osl id1 0 Z.length] ∧ s.heap id1 = some (1,wd .i64 Z) ∧ m0 ≤ id1 ∧ id1 < s.nx) ∧ (L 6 = true → ∃ id1 ib : Nat,s.env 73 = .osl ib 0 1 ∧ s.heap ib = some (13,[[.int .u64 g.1.x.a,.int .u64 g.1.x.b,.int .u64 g.1.x.c,.int .u64 g.1.x.d,.int .u64 g.1.y.a,.int .u64 g.1.y.b,.int .u64 g.1.y.c,.int .u64 g.1.y.d,.int .u64 g.1.w.a,.int .u64 g.1.w.b,.int .u64 g.1.w.c,.int .u64 g.1.w.d,.osl id1 0 Z.length]]) ∧ s.heap id1 = some (1,wd .i64 Z) ∧ m0 ≤ id1 ∧ id1 < s.nx ∧ m0 ≤ ib ∧ ib < s.nx) ∧ (L 7 = true → ∃ id1 ia : Nat,s.env 74 = .osl ia 0 (j + 1) ∧ s.heap ia = some (13,C ++ [[.int .u64 g.1.x.a,.int .u64 g.1.x.b,.int .u64 g.1.x.c,.int .u64 g.1.x.d,.int .u64 g.1.y.a,.int .u64 g.1.y.b,.int .u64 g.1.y.c,.int .u64 g.1.y.d,.int .u64 g.1.w.a,.int .u64 g.1.w.b,.int .u64 g.1.w.c,.int .u64 g.1.w.d,.osl id1 0 Z.length]]) ∧ s.heap id1 = some (1,wd .i64 Z) ∧ m0 ≤ id1 ∧ id1 < s.nx ∧ m0 ≤ ia ∧ ia < s.nx ∧ ia ≠ id1) ∧ (L 8 = true → ∃ id1 ia : Nat,s.env 13 = .osl ia 0 (j + 1) ∧ s.heap ia = some (13,C ++ [[.int .u64 g.1.x.a,.int .u64 g.1.x.b,.int .u64 g.1.x.c,.int .u64 g.1.x.d,.int .u64 g.1.y.a,.int .u64 g.1.y.b,.int .u64 g.1.y.c,.int .u64 g.1.y.d,.int .u64 g.1.w.a,.int .u64 g.1.w.b,.int .u64 g.1.w.c,.int .u64 g.1.w.d,.osl id1 0 Z.length]]) ∧ s.heap id1 = some (1,wd .i64 Z) ∧ m0 ≤ id1 ∧ id1 < s.nx ∧ m0 ≤ ia ∧ ia < s.nx ∧ ia ≠ id1) ∧ (L 8 = false → s.env 13 = .osl io 0 j) ∧ (L 7 = false → s.heap io = some (13,C))) (⟨by first|(simp (disch:=omega) [g0,g13,g61,g62,g63,Ho];done)|omega|(simp;done)|(simp;omega)|(simp (disch:=omega) [g0,g13,g61,g62,g63,Ho] <;> omega),by first|(simp (disch:=omega) [g0,g13,g61,g62,g63,Ho];done)|omega|(simp;done)|(simp;omega)|(simp (disch:=omega) [g0,g13,g61,g62,g63,Ho] <;> omega),by first|(simp (disch:=omega) [g0,g13,g61,g62,g63,Ho];done)|omega|(simp;done)|(simp;omega)|(simp (disch:=omega) [g0,g13,g61,g62,g63,Ho] <;> omega),by first|(simp (disch:=omega) [g0,g13,g61,g62,g63,Ho];done)|omega|(simp;done)|(simp;omega)|(simp (disch:=omega) [g0,g13,g61,g62,g63,Ho] <;> omega),by first|(simp (disch:=omega) [g0,g13,g61,g62,g63,Ho];done)|omega|(simp;done)|(simp;omega)|(simp (disch:=omega) [g0,g13,g61,g62,g63,Ho] <;> omega),rfl,by first|(simp (disch:=omega) [g0,g13,g61,g62,g63,Ho];done)|omega|(simp;done)|(simp;omega)|(simp (disch:=omega) [g0,g13,g61,g62,g63,Ho] <;> omega),fun q hq=>by obtain ⟨a,b,c⟩:=hrow q hq; have hn:=hne q hq; exact ⟨a,by omega,by simp (disch:=omega) [c,hn]⟩,fun h=>by simp at h,fun h=>by simp at h,fun h=>by simp at h,fun h=>by simp at h,fun h=>by simp at h,fun h=>by simp at h,fun h=>by simp at h,fun h=>by simp at h,fun h=>by simp at h,fun _=>by first|(simp (disch:=omega) [g0,g13,g61,g62,g63,Ho];done)|omega|(simp;done)|(simp;omega)|(simp (disch:=omega) [g0,g13,g61,g62,g63,Ho] <;> omega),fun _=>by first|(simp (disch:=omega) [g0,g13,g61,g62,g63,Ho];done)|omega|(simp;done)|(simp;omega)|(simp (disch:=omega) [g0,g13,g61,g62,g63,Ho] <;> omega)⟩) ?_ ?_
   ·rintro L ⟨e,H,mm,nt⟩ x o hC ⟨b0,b15,b61,b62,b63,hnt,hmx,hrow,c0,c1,c2,c3,c4,c5,c6,c7,c8,n13,no⟩ hxx hoo hpp
    simp only [] at b0 b15 b61 b62 b63 hnt hmx hrow c0 c1 c2 c3 c4 c5 c6 c7 c8 n13 no
    subst hnt
    rcases x with _ | _ | _ | _ | _ | _ | _ | _ | _ | x
    ·simp only [List.getElem?_toArray,List.getElem?_cons_zero,List.getElem?_cons_succ,Option.some.injEq] at hoo
     subst hoo
     try simp only [Nat.zero_add,Nat.reduceAdd] at hxx ⊢
     have fn13:=n13 (hC.not hxx (k:=8) rfl (by simp [pre,Region.binds]))
     have fno:=no (hC.not hxx (k:=7) rfl (by simp [pre,Region.binds]))
     refine .e ?_ (by simp (disch:=first|omega|(simp only[ln];omega)) [b0,b15,b61,b62,b63,hmx,hrow,fn13,fno]; rfl)
     refine ⟨?_,?_,?_,?_,?_,rfl,?_,fun q hq=>by obtain ⟨a,b,c⟩:=hrow q hq; have hn:=hne q hq; exact ⟨a,by omega,by simp (disch:=omega) [c,hn]⟩,fun _=>?_,?_,?_,?_,fun h=>by rw [upL_ne L (by decide)] at h; obtain ⟨id1,k0,k1,k2,k3⟩:=c4 h; exact ⟨id1,by first|exact k0|(simp (disch:=omega) [k0];done)|omega|(simp;omega),by first|exact k1|(simp (disch:=omega) [k1];done)|omega|(simp;omega),by first|exact k2|(simp (disch:=omega) [k2];done)|omega|(simp;omega),by first|exact k3|(simp (disch:=omega) [k3];done)|omega|(simp;omega)⟩,fun h=>by rw [upL_ne L (by decide)] at h; obtain ⟨id1,k0,k1,k2,k3⟩:=c5 h; exact ⟨id1,by first|exact k0|(simp (disch:=omega) [k0];done)|omega|(simp;omega),by first|exact k1|(simp (disch:=omega) [k1];done)|omega|(simp;omega),by first|exact k2|(simp (disch:=omega) [k2];done)|omega|(simp;omega),by first|exact k3|(simp (disch:=omega) [k3];done)|omega|(simp;omega)⟩,fun h=>by rw [upL_ne L (by decide)] at h; obtain ⟨id1,ib,k0,k1,k2,k3,k4,k5,k6⟩:=c6 h; exact ⟨id1,ib,by first|exact k0|(simp (disch:=omega) [k0];done)|omega|(simp;omega),by first|exact k1|(simp (disch:=omega) [k1];done)|omega|(simp;omega),by first|exact k2|(simp (disch:=omega) [k2];done)|omega|(simp;omega),by first|exact k3|(simp (disch:=omega) [k3];done)|omega|(simp;omega),by first|exact k4|(simp (disch:=omega) [k4];done)|omega|(simp;omega),by first|exact k5|(simp (disch:=omega) [k5];done)|omega|(simp;omega),by first|exact k6|(simp (disch:=omega) [k6];done)|omega|(simp;omega)⟩,fun h=>by rw [upL_ne L (by decide)] at h; obtain ⟨id1,ia,k0,k1,k2,k3,k4,k5,k6,k7⟩:=c7 h; exact ⟨id1,ia,by first|exact k0|(simp (disch:=omega) [k0];done)|omega|(simp;omega),by first|exact k1|(simp (disch:=omega) [k1];done)|omega|(simp;omega),by first|exact k2|(simp (disch:=omega) [k2];done)|omega|(simp;omega),by first|exact k3|(simp (disch:=omega) [k3];done)|omega|(simp;omega),by first|exact k4|(simp (disch:=omega) [k4];done)|omega|(simp;omega),by first|exact k5|(simp (disch:=omega) [k5];done)|omega|(simp;omega),by first|exact k6|(simp (disch:=omega) [k6];done)|omega|(simp;omega),by first|exact k7|(simp (disch:=omega) [k7];done)|omega|(simp;omega)⟩,fun h=>by rw [upL_ne L (by decide)] at h; obtain ⟨id1,ia,k0,k1,k2,k3,k4,k5,k6,k7⟩:=c8 h; exact ⟨id1,ia,by first|exact k0|(simp (disch:=omega) [k0];done)|omega|(simp;omega),by first|exact k1|(simp (disch:=omega) [k1];done)|omega|(simp;omega),by first|exact k2|(simp (disch:=omega) [k2];done)|omega|(simp;omega),by first|exact k3|(simp (disch:=omega) [k3];done)|omega|(simp;omega),by first|exact k4|(simp (disch:=omega) [k4];done)|omega|(simp;omega),by first|exact k5|(simp (disch:=omega) [k5];done)|omega|(simp;omega),by first|exact k6|(simp (disch:=omega) [k6];done)|omega|(simp;omega),by first|exact k7|(simp (disch:=omega) [k7];done)|omega|(simp;omega)⟩,?_,?_⟩ <;> first|(simp (disch:=omega) [b0,b15,b61,b62,b63,hmx,hrow,fn13,fno];done)|omega|(simp;omega)|(simp [upL];assumption)|(simp (disch:=omega) [b0,b15,b61,b62,b63,hmx,hrow,fn13,fno,upL];done)|(simp (disch:=omega) [b0,b15,b61,b62,b63,hmx,hrow,fn13,fno,upL];assumption)
    ·simp only [List.getElem?_toArray,List.getElem?_cons_zero,List.getElem?_cons_succ,Option.some.injEq] at hoo
     subst hoo
     try simp only [Nat.zero_add,Nat.reduceAdd] at hxx ⊢
     have fn13:=n13 (hC.not hxx (k:=8) rfl (by simp [pre,Region.binds]))
     refine .e ?_ (by simp (disch:=first|omega|(simp only[ln];omega)) [b0,b15,b61,b62,b63,hmx,hrow,fn13]; rfl)
     refine ⟨?_,?_,?_,?_,?_,rfl,?_,fun q hq=>by obtain ⟨a,b,c⟩:=hrow q hq; have hn:=hne q hq; exact ⟨a,by omega,by simp (disch:=omega) [c,hn]⟩,?_,fun _=>?_,?_,?_,fun h=>by rw [upL_ne L (by decide)] at h; obtain ⟨id1,k0,k1,k2,k3⟩:=c4 h; exact ⟨id1,by first|exact k0|(simp (disch:=omega) [k0];done)|omega|(simp;omega),by first|exact k1|(simp (disch:=omega) [k1];done)|omega|(simp;omega),by first|exact k2|(simp (disch:=omega) [k2];done)|omega|(simp;omega),by first|exact k3|(simp (disch:=omega) [k3];done)|omega|(simp;omega)⟩,fun h=>by rw [upL_ne L (by decide)] at h; obtain ⟨id1,k0,k1,k2,k3⟩:=c5 h; exact ⟨id1,by first|exact k0|(simp (disch:=omega) [k0];done)|omega|(simp;omega),by first|exact k1|(simp (disch:=omega) [k1];done)|omega|(simp;omega),by first|exact k2|(simp (disch:=omega) [k2];done)|omega|(simp;omega),by first|exact k3|(simp (disch:=omega) [k3];done)|omega|(simp;omega)⟩,fun h=>by rw [upL_ne L (by decide)] at h; obtain ⟨id1,ib,k0,k1,k2,k3,k4,k5,k6⟩:=c6 h; exact ⟨id1,ib,by first|exact k0|(simp (disch:=omega) [k0];done)|omega|(simp;omega),by first|exact k1|(simp (disch:=omega) [k1];done)|omega|(simp;omega),by first|exact k2|(simp (disch:=omega) [k2];done)|omega|(simp;omega),by first|exact k3|(simp (disch:=omega) [k3];done)|omega|(simp;omega),by first|exact k4|(simp (disch:=omega) [k4];done)|omega|(simp;omega),by first|exact k5|(simp (disch:=omega) [k5];done)|omega|(simp;omega),by first|exact k6|(simp (disch:=omega) [k6];done)|omega|(simp;omega)⟩,fun h=>by rw [upL_ne L (by decide)] at h; obtain ⟨id1,ia,k0,k1,k2,k3,k4,k5,k6,k7⟩:=c7 h; exact ⟨id1,ia,by first|exact k0|(simp (disch:=omega) [k0];done)|omega|(simp;omega),by first|exact k1|(simp (disch:=omega) [k1];done)|omega|(simp;omega),by first|exact k2|(simp (disch:=omega) [k2];done)|omega|(simp;omega),by first|exact k3|(simp (disch:=omega) [k3];done)|omega|(simp;omega),by first|exact k4|(simp (disch:=omega) [k4];done)|omega|(simp;omega),by first|exact k5|(simp (disch:=omega) [k5];done)|omega|(simp;omega),by first|exact k6|(simp (disch:=omega) [k6];done)|omega|(simp;omega),by first|exact k7|(simp (disch:=omega) [k7];done)|omega|(simp;omega)⟩,fun h=>by rw [upL_ne L (by decide)] at h; obtain ⟨id1,ia,k0,k1,k2,k3,k4,k5,k6,k7⟩:=c8 h; exact ⟨id1,ia,by first|exact k0|(simp (disch:=omega) [k0];done)|omega|(simp;omega),by first|exact k1|(simp (disch:=omega) [k1];done)|omega|(simp;omega),by first|exact k2|(simp (disch:=omega) [k2];done)|omega|(simp;omega),by first|exact k3|(simp (disch:=omega) [k3];done)|omega|(simp;omega),by first|exact k4|(simp (disch:=omega) [k4];done)|omega|(simp;omega),by first|exact k5|(simp (disch:=omega) [k5];done)|omega|(simp;omega),by first|exact k6|(simp (disch:=omega) [k6];done)|omega|(simp;omega),by first|exact k7|(simp (disch:=omega) [k7];done)|omega|(simp;omega)⟩,?_,?_⟩ <;> first|(simp (disch:=omega) [b0,b15,b61,b62,b63,hmx,hrow,fn13];done)|omega|(simp;omega)|(simp [upL];assumption)|(simp (disch:=omega) [b0,b15,b61,b62,b63,hmx,hrow,fn13,upL];done)|(simp (disch:=omega) [b0,b15,b61,b62,b63,hmx,hrow,fn13,upL];assumption)
    ·simp only [List.getElem?_toArray,List.getElem?_cons_zero,List.getElem?_cons_succ,Option.some.injEq] at hoo
     subst hoo
     try simp only [Nat.zero_add,Nat.reduceAdd] at hxx ⊢
     have fn13:=n13 (hC.not hxx (k:=8) rfl (by simp [pre,Region.binds]))
     refine .e ?_ (by simp (disch:=first|omega|(simp only[ln];omega)) [b0,b15,b61,b62,b63,hmx,hrow,fn13]; rfl)
     refine ⟨?_,?_,?_,?_,?_,rfl,?_,fun q hq=>by obtain ⟨a,b,c⟩:=hrow q hq; have hn:=hne q hq; exact ⟨a,by omega,by simp (disch:=omega) [c,hn]⟩,?_,?_,fun _=>?_,?_,fun h=>by rw [upL_ne L (by decide)] at h; obtain ⟨id1,k0,k1,k2,k3⟩:=c4 h; exact ⟨id1,by first|exact k0|(simp (disch:=omega) [k0];done)|omega|(simp;omega),by first|exact k1|(simp (disch:=omega) [k1];done)|omega|(simp;omega),by first|exact k2|(simp (disch:=omega) [k2];done)|omega|(simp;omega),by first|exact k3|(simp (disch:=omega) [k3];done)|omega|(simp;omega)⟩,fun h=>by rw [upL_ne L (by decide)] at h; obtain ⟨id1,k0,k1,k2,k3⟩:=c5 h; exact ⟨id1,by first|exact k0|(simp (disch:=omega) [k0];done)|omega|(simp;omega),by first|exact k1|(simp (disch:=omega) [k1];done)|omega|(simp;omega),by first|exact k2|(simp (disch:=omega) [k2];done)|omega|(simp;omega),by first|exact k3|(simp (disch:=omega) [k3];done)|omega|(simp;omega)⟩,fun h=>by rw [upL_ne L (by decide)] at h; obtain ⟨id1,ib,k0,k1,k2,k3,k4,k5,k6⟩:=c6 h; exact ⟨id1,ib,by first|exact k0|(simp (disch:=omega) [k0];done)|omega|(simp;omega),by first|exact k1|(simp (disch:=omega) [k1];done)|omega|(simp;omega),by first|exact k2|(simp (disch:=omega) [k2];done)|omega|(simp;omega),by first|exact k3|(simp (disch:=omega) [k3];done)|omega|(simp;omega),by first|exact k4|(simp (disch:=omega) [k4];done)|omega|(simp;omega),by first|exact k5|(simp (disch:=omega) [k5];done)|omega|(simp;omega),by first|exact k6|(simp (disch:=omega) [k6];done)|omega|(simp;omega)⟩,fun h=>by rw [upL_ne L (by decide)] at h; obtain ⟨id1,ia,k0,k1,k2,k3,k4,k5,k6,k7⟩:=c7 h; exact ⟨id1,ia,by first|exact k0|(simp (disch:=omega) [k0];done)|omega|(simp;omega),by first|exact k1|(simp (disch:=omega) [k1];done)|omega|(simp;omega),by first|exact k2|(simp (disch:=omega) [k2];done)|omega|(simp;omega),by first|exact k3|(simp (disch:=omega) [k3];done)|omega|(simp;omega),by first|exact k4|(simp (disch:=omega) [k4];done)|omega|(simp;omega),by first|exact k5|(simp (disch:=omega) [k5];done)|omega|(simp;omega),by first|exact k6|(simp (disch:=omega) [k6];done)|omega|(simp;omega),by first|exact k7|(simp (disch:=omega) [k7];done)|omega|(simp;omega)⟩,fun h=>by rw [upL_ne L (by decide)] at h; obtain ⟨id1,ia,k0,k1,k2,k3,k4,k5,k6,k7⟩:=c8 h; exact ⟨id1,ia,by first|exact k0|(simp (disch:=omega) [k0];done)|omega|(simp;omega),by first|exact k1|(simp (disch:=omega) [k1];done)|omega|(simp;omega),by first|exact k2|(simp (disch:=omega) [k2];done)|omega|(simp;omega),by first|exact k3|(simp (disch:=omega) [k3];done)|omega|(simp;omega),by first|exact k4|(simp (disch:=omega) [k4];done)|omega|(simp;omega),by first|exact k5|(simp (disch:=omega) [k5];done)|omega|(simp;omega),by first|exact k6|(simp (disch:=omega) [k6];done)|omega|(simp;omega),by first|exact k7|(simp (disch:=omega) [k7];done)|omega|(simp;omega)⟩,?_,?_⟩ <;> first|(simp (disch:=omega) [b0,b15,b61,b62,b63,hmx,hrow,fn13];done)|omega|(simp;omega)|(simp [upL];assumption)|(simp (disch:=omega) [b0,b15,b61,b62,b63,hmx,hrow,fn13,upL];done)|(simp (disch:=omega) [b0,b15,b61,b62,b63,hmx,hrow,fn13,upL];assumption)
    ·simp only [List.getElem?_toArray,List.getElem?_cons_zero,List.getElem?_cons_succ,Option.some.injEq] at hoo
     subst hoo
     try simp only [Nat.zero_add,Nat.reduceAdd] at hxx ⊢
     have fn13:=n13 (hC.not hxx (k:=8) rfl (by simp [pre,Region.binds]))
     refine .e ?_ (by simp (disch:=first|omega|(simp only[ln];omega)) [b0,b15,b61,b62,b63,hmx,hrow,fn13]; rfl)
     refine ⟨?_,?_,?_,?_,?_,rfl,?_,fun q hq=>by obtain ⟨a,b,c⟩:=hrow q hq; have hn:=hne q hq; exact ⟨a,by omega,by simp (disch:=omega) [c,hn]⟩,?_,?_,?_,fun _=>?_,fun h=>by rw [upL_ne L (by decide)] at h; obtain ⟨id1,k0,k1,k2,k3⟩:=c4 h; exact ⟨id1,by first|exact k0|(simp (disch:=omega) [k0];done)|omega|(simp;omega),by first|exact k1|(simp (disch:=omega) [k1];done)|omega|(simp;omega),by first|exact k2|(simp (disch:=omega) [k2];done)|omega|(simp;omega),by first|exact k3|(simp (disch:=omega) [k3];done)|omega|(simp;omega)⟩,fun h=>by rw [upL_ne L (by decide)] at h; obtain ⟨id1,k0,k1,k2,k3⟩:=c5 h; exact ⟨id1,by first|exact k0|(simp (disch:=omega) [k0];done)|omega|(simp;omega),by first|exact k1|(simp (disch:=omega) [k1];done)|omega|(simp;omega),by first|exact k2|(simp (disch:=omega) [k2];done)|omega|(simp;omega),by first|exact k3|(simp (disch:=omega) [k3];done)|omega|(simp;omega)⟩,fun h=>by rw [upL_ne L (by decide)] at h; obtain ⟨id1,ib,k0,k1,k2,k3,k4,k5,k6⟩:=c6 h; exact ⟨id1,ib,by first|exact k0|(simp (disch:=omega) [k0];done)|omega|(simp;omega),by first|exact k1|(simp (disch:=omega) [k1];done)|omega|(simp;omega),by first|exact k2|(simp (disch:=omega) [k2];done)|omega|(simp;omega),by first|exact k3|(simp (disch:=omega) [k3];done)|omega|(simp;omega),by first|exact k4|(simp (disch:=omega) [k4];done)|omega|(simp;omega),by first|exact k5|(simp (disch:=omega) [k5];done)|omega|(simp;omega),by first|exact k6|(simp (disch:=omega) [k6];done)|omega|(simp;omega)⟩,fun h=>by rw [upL_ne L (by decide)] at h; obtain ⟨id1,ia,k0,k1,k2,k3,k4,k5,k6,k7⟩:=c7 h; exact ⟨id1,ia,by first|exact k0|(simp (disch:=omega) [k0];done)|omega|(simp;omega),by first|exact k1|(simp (disch:=omega) [k1];done)|omega|(simp;omega),by first|exact k2|(simp (disch:=omega) [k2];done)|omega|(simp;omega),by first|exact k3|(simp (disch:=omega) [k3];done)|omega|(simp;omega),by first|exact k4|(simp (disch:=omega) [k4];done)|omega|(simp;omega),by first|exact k5|(simp (disch:=omega) [k5];done)|omega|(simp;omega),by first|exact k6|(simp (disch:=omega) [k6];done)|omega|(simp;omega),by first|exact k7|(simp (disch:=omega) [k7];done)|omega|(simp;omega)⟩,fun h=>by rw [upL_ne L (by decide)] at h; obtain ⟨id1,ia,k0,k1,k2,k3,k4,k5,k6,k7⟩:=c8 h; exact ⟨id1,ia,by first|exact k0|(simp (disch:=omega) [k0];done)|omega|(simp;omega),by first|exact k1|(simp (disch:=omega) [k1];done)|omega|(simp;omega),by first|exact k2|(simp (disch:=omega) [k2];done)|omega|(simp;omega),by first|exact k3|(simp (disch:=omega) [k3];done)|omega|(simp;omega),by first|exact k4|(simp (disch:=omega) [k4];done)|omega|(simp;omega),by first|exact k5|(simp (disch:=omega) [k5];done)|omega|(simp;omega),by first|exact k6|(simp (disch:=omega) [k6];done)|omega|(simp;omega),by first|exact k7|(simp (disch:=omega) [k7];done)|omega|(simp;omega)⟩,?_,?_⟩ <;> first|(simp (disch:=omega) [b0,b15,b61,b62,b63,hmx,hrow,fn13];done)|omega|(simp;omega)|(simp [upL];assumption)|(simp (disch:=omega) [b0,b15,b61,b62,b63,hmx,hrow,fn13,upL];done)|(simp (disch:=omega) [b0,b15,b61,b62,b63,hmx,hrow,fn13,upL];assumption)
    ·simp only [List.getElem?_toArray,List.getElem?_cons_zero,List.getElem?_cons_succ,Option.some.injEq] at hoo
     subst hoo
     try simp only [Nat.zero_add,Nat.reduceAdd] at hxx ⊢
     have l2 : L 2 = true:=hpp 2 (by simp [pre,Region.binds])
     have fc2:=c2 l2
     have l3 : L 3 = true:=hpp 3 (by simp [pre,Region.binds])
     have fc3:=c3 l3
     have fn13:=n13 (hC.not hxx (k:=8) rfl (by simp [pre,Region.binds]))
     have fno:=no (hC.not hxx (k:=7) rfl (by simp [pre,Region.binds]))
     refine AOPS.ocallL 4 (own0 _) rfl rfl rfl hb137 (by simp (disch:=first|omega|(simp only[ln];omega)) [lv,idf_Wd',lv_sg,List.map_map,b0,b15,b61,b62,b63,hmx,hrow,fc2,fc3,fn13,fno]) (⟨fun _ h=>by simp [nwr,nwrL]; try exact h,nwr_wdZ _ _⟩) (by simp (disch:=first|omega|(simp only[ln];omega)) [b0,b15,b61,b62,b63,hmx,hrow,fc2,fc3,fn13,fno]) (by simp) ?_
     intro id2 nx2 hi1 hi2
     simp only [] at hi1 hi2
     simp only [puts_some,updo]
     refine AOPS.nil ?_
     refine ⟨?_,?_,?_,?_,?_,rfl,?_,fun q hq=>by obtain ⟨a,b,c⟩:=hrow q hq; have hn:=hne q hq; exact ⟨a,by omega,by simp (disch:=omega) [c,hn]⟩,?_,?_,?_,?_,fun _=>⟨id2,by first|(simp (disch:=omega);done)|omega|(simp;omega)|assumption,by first|(simp (disch:=omega);done)|omega|(simp;omega)|assumption,by first|(simp (disch:=omega);done)|omega|(simp;omega)|assumption,by first|(simp (disch:=omega);done)|omega|(simp;omega)|assumption⟩,fun h=>by rw [upL_ne L (by decide)] at h; obtain ⟨id1,k0,k1,k2,k3⟩:=c5 h; exact ⟨id1,by first|exact k0|(simp (disch:=omega) [k0];done)|omega|(simp;omega),by first|exact k1|(simp (disch:=omega) [k1];done)|omega|(simp;omega),by first|exact k2|(simp (disch:=omega) [k2];done)|omega|(simp;omega),by first|exact k3|(simp (disch:=omega) [k3];done)|omega|(simp;omega)⟩,fun h=>by rw [upL_ne L (by decide)] at h; obtain ⟨id1,ib,k0,k1,k2,k3,k4,k5,k6⟩:=c6 h; exact ⟨id1,ib,by first|exact k0|(simp (disch:=omega) [k0];done)|omega|(simp;omega),by first|exact k1|(simp (disch:=omega) [k1];done)|omega|(simp;omega),by first|exact k2|(simp (disch:=omega) [k2];done)|omega|(simp;omega),by first|exact k3|(simp (disch:=omega) [k3];done)|omega|(simp;omega),by first|exact k4|(simp (disch:=omega) [k4];done)|omega|(simp;omega),by first|exact k5|(simp (disch:=omega) [k5];done)|omega|(simp;omega),by first|exact k6|(simp (disch:=omega) [k6];done)|omega|(simp;omega)⟩,fun h=>by rw [upL_ne L (by decide)] at h; obtain ⟨id1,ia,k0,k1,k2,k3,k4,k5,k6,k7⟩:=c7 h; exact ⟨id1,ia,by first|exact k0|(simp (disch:=omega) [k0];done)|omega|(simp;omega),by first|exact k1|(simp (disch:=omega) [k1];done)|omega|(simp;omega),by first|exact k2|(simp (disch:=omega) [k2];done)|omega|(simp;omega),by first|exact k3|(simp (disch:=omega) [k3];done)|omega|(simp;omega),by first|exact k4|(simp (disch:=omega) [k4];done)|omega|(simp;omega),by first|exact k5|(simp (disch:=omega) [k5];done)|omega|(simp;omega),by first|exact k6|(simp (disch:=omega) [k6];done)|omega|(simp;omega),by first|exact k7|(simp (disch:=omega) [k7];done)|omega|(simp;omega)⟩,fun h=>by rw [upL_ne L (by decide)] at h; obtain ⟨id1,ia,k0,k1,k2,k3,k4,k5,k6,k7⟩:=c8 h; exact ⟨id1,ia,by first|exact k0|(simp (disch:=omega) [k0];done)|omega|(simp;omega),by first|exact k1|(simp (disch:=omega) [k1];done)|omega|(simp;omega),by first|exact k2|(simp (disch:=omega) [k2];done)|omega|(simp;omega),by first|exact k3|(simp (disch:=omega) [k3];done)|omega|(simp;omega),by first|exact k4|(simp (disch:=omega) [k4];done)|omega|(simp;omega),by first|exact k5|(simp (disch:=omega) [k5];done)|omega|(simp;omega),by first|exact k6|(simp (disch:=omega) [k6];done)|omega|(simp;omega),by first|exact k7|(simp (disch:=omega) [k7];done)|omega|(simp;omega)⟩,?_,?_⟩ <;> first|(simp (disch:=omega) [b0,b15,b61,b62,b63,hmx,hrow,fc2,fc3,fn13,fno];done)|omega|(simp;omega)|(simp [upL];assumption)|(simp (disch:=omega) [b0,b15,b61,b62,b63,hmx,hrow,fc2,fc3,fn13,fno,upL];done)|(simp (disch:=omega) [b0,b15,b61,b62,b63,hmx,hrow,fc2,fc3,fn13,fno,upL];assumption)
    ·simp only [List.getElem?_toArray,List.getElem?_cons_zero,List.getElem?_cons_succ,Option.some.injEq] at hoo
     subst hoo
     try simp only [Nat.zero_add,Nat.reduceAdd] at hxx ⊢
     have l1 : L 1 = true:=hpp 1 (by simp [pre,Region.binds])
     have fc1:=c1 l1
     have l4 : L 4 = true:=hpp 4 (by simp [pre,Region.binds])
     have fc4:=c4 l4
     have fn13:=n13 (hC.not hxx (k:=8) rfl (by simp [pre,Region.binds]))
     obtain ⟨id1,f71,fh1,fl1,fu1⟩:=id fc4
     refine .e ?_ (by simp (disch:=first|omega|(simp only[ln];omega)) [b0,b15,b61,b62,b63,hmx,hrow,fc1,fc4,fn13,f71,fh1]; rfl)
     refine ⟨?_,?_,?_,?_,?_,rfl,?_,fun q hq=>by obtain ⟨a,b,c⟩:=hrow q hq; have hn:=hne q hq; exact ⟨a,by omega,by simp (disch:=omega) [c,hn]⟩,?_,?_,?_,?_,fun h=>by rw [upL_ne L (by decide)] at h; obtain ⟨id1,k0,k1,k2,k3⟩:=c4 h; exact ⟨id1,by first|exact k0|(simp (disch:=omega) [k0];done)|omega|(simp;omega),by first|exact k1|(simp (disch:=omega) [k1];done)|omega|(simp;omega),by first|exact k2|(simp (disch:=omega) [k2];done)|omega|(simp;omega),by first|exact k3|(simp (disch:=omega) [k3];done)|omega|(simp;omega)⟩,fun _=>⟨id1,by first|(simp (disch:=omega) [fh1];done)|omega|(simp;omega)|assumption,by first|(simp (disch:=omega) [fh1];done)|omega|(simp;omega)|assumption,by first|(simp (disch:=omega) [fh1];done)|omega|(simp;omega)|assumption,by first|(simp (disch:=omega) [fh1];done)|omega|(simp;omega)|assumption⟩,fun h=>by rw [upL_ne L (by decide)] at h; obtain ⟨id1,ib,k0,k1,k2,k3,k4,k5,k6⟩:=c6 h; exact ⟨id1,ib,by first|exact k0|(simp (disch:=omega) [k0];done)|omega|(simp;omega),by first|exact k1|(simp (disch:=omega) [k1];done)|omega|(simp;omega),by first|exact k2|(simp (disch:=omega) [k2];done)|omega|(simp;omega),by first|exact k3|(simp (disch:=omega) [k3];done)|omega|(simp;omega),by first|exact k4|(simp (disch:=omega) [k4];done)|omega|(simp;omega),by first|exact k5|(simp (disch:=omega) [k5];done)|omega|(simp;omega),by first|exact k6|(simp (disch:=omega) [k6];done)|omega|(simp;omega)⟩,fun h=>by rw [upL_ne L (by decide)] at h; obtain ⟨id1,ia,k0,k1,k2,k3,k4,k5,k6,k7⟩:=c7 h; exact ⟨id1,ia,by first|exact k0|(simp (disch:=omega) [k0];done)|omega|(simp;omega),by first|exact k1|(simp (disch:=omega) [k1];done)|omega|(simp;omega),by first|exact k2|(simp (disch:=omega) [k2];done)|omega|(simp;omega),by first|exact k3|(simp (disch:=omega) [k3];done)|omega|(simp;omega),by first|exact k4|(simp (disch:=omega) [k4];done)|omega|(simp;omega),by first|exact k5|(simp (disch:=omega) [k5];done)|omega|(simp;omega),by first|exact k6|(simp (disch:=omega) [k6];done)|omega|(simp;omega),by first|exact k7|(simp (disch:=omega) [k7];done)|omega|(simp;omega)⟩,fun h=>by rw [upL_ne L (by decide)] at h; obtain ⟨id1,ia,k0,k1,k2,k3,k4,k5,k6,k7⟩:=c8 h; exact ⟨id1,ia,by first|exact k0|(simp (disch:=omega) [k0];done)|omega|(simp;omega),by first|exact k1|(simp (disch:=omega) [k1];done)|omega|(simp;omega),by first|exact k2|(simp (disch:=omega) [k2];done)|omega|(simp;omega),by first|exact k3|(simp (disch:=omega) [k3];done)|omega|(simp;omega),by first|exact k4|(simp (disch:=omega) [k4];done)|omega|(simp;omega),by first|exact k5|(simp (disch:=omega) [k5];done)|omega|(simp;omega),by first|exact k6|(simp (disch:=omega) [k6];done)|omega|(simp;omega),by first|exact k7|(simp (disch:=omega) [k7];done)|omega|(simp;omega)⟩,?_,?_⟩ <;> first|(simp (disch:=omega) [b0,b15,b61,b62,b63,hmx,hrow,fc1,fc4,fn13,f71,fh1];done)|omega|(simp;omega)|(simp [upL];assumption)|(simp (disch:=omega) [b0,b15,b61,b62,b63,hmx,hrow,fc1,fc4,fn13,f71,fh1,upL];done)|(simp (disch:=omega) [b0,b15,b61,b62,b63,hmx,hrow,fc1,fc4,fn13,f71,fh1,upL];assumption)
    ·simp only [List.getElem?_toArray,List.getElem?_cons_zero,List.getElem?_cons_succ,Option.some.injEq] at hoo
     subst hoo
     try simp only [Nat.zero_add,Nat.reduceAdd] at hxx ⊢
     have l5 : L 5 = true:=hpp 5 (by simp [pre,Region.binds])
     have fc5:=c5 l5
     have fn13:=n13 (hC.not hxx (k:=8) rfl (by simp [pre,Region.binds]))
     have fno:=no (hC.not hxx (k:=7) rfl (by simp [pre,Region.binds]))
     obtain ⟨id1,f72,fh1,fl1,fu1⟩:=id fc5
     refine .e ?_ (by simp (disch:=first|omega|(simp only[ln];omega)) [b0,b15,b61,b62,b63,hmx,hrow,fc5,fn13,fno,f72,fh1]; rfl)
     refine ⟨?_,?_,?_,?_,?_,rfl,?_,fun q hq=>by obtain ⟨a,b,c⟩:=hrow q hq; have hn:=hne q hq; exact ⟨a,by omega,by simp (disch:=omega) [c,hn]⟩,?_,?_,?_,?_,fun h=>by rw [upL_ne L (by decide)] at h; obtain ⟨id1,k0,k1,k2,k3⟩:=c4 h; exact ⟨id1,by first|exact k0|(simp (disch:=omega) [k0];done)|omega|(simp;omega),by first|exact k1|(simp (disch:=omega) [k1];done)|omega|(simp;omega),by first|exact k2|(simp (disch:=omega) [k2];done)|omega|(simp;omega),by first|exact k3|(simp (disch:=omega) [k3];done)|omega|(simp;omega)⟩,fun h=>by rw [upL_ne L (by decide)] at h; obtain ⟨id1,k0,k1,k2,k3⟩:=c5 h; exact ⟨id1,by first|exact k0|(simp (disch:=omega) [k0];done)|omega|(simp;omega),by first|exact k1|(simp (disch:=omega) [k1];done)|omega|(simp;omega),by first|exact k2|(simp (disch:=omega) [k2];done)|omega|(simp;omega),by first|exact k3|(simp (disch:=omega) [k3];done)|omega|(simp;omega)⟩,fun _=>⟨id1,mm,by first|(simp (disch:=omega) [fh1];done)|omega|(simp;omega)|assumption,by first|(simp (disch:=omega) [fh1];done)|omega|(simp;omega)|assumption,by first|(simp (disch:=omega) [fh1];done)|omega|(simp;omega)|assumption,by first|(simp (disch:=omega) [fh1];done)|omega|(simp;omega)|assumption,by first|(simp (disch:=omega) [fh1];done)|omega|(simp;omega)|assumption,by first|(simp (disch:=omega) [fh1];done)|omega|(simp;omega)|assumption,by first|(simp (disch:=omega) [fh1];done)|omega|(simp;omega)|assumption⟩,fun h=>by rw [upL_ne L (by decide)] at h; obtain ⟨id1,ia,k0,k1,k2,k3,k4,k5,k6,k7⟩:=c7 h; exact ⟨id1,ia,by first|exact k0|(simp (disch:=omega) [k0];done)|omega|(simp;omega),by first|exact k1|(simp (disch:=omega) [k1];done)|omega|(simp;omega),by first|exact k2|(simp (disch:=omega) [k2];done)|omega|(simp;omega),by first|exact k3|(simp (disch:=omega) [k3];done)|omega|(simp;omega),by first|exact k4|(simp (disch:=omega) [k4];done)|omega|(simp;omega),by first|exact k5|(simp (disch:=omega) [k5];done)|omega|(simp;omega),by first|exact k6|(simp (disch:=omega) [k6];done)|omega|(simp;omega),by first|exact k7|(simp (disch:=omega) [k7];done)|omega|(simp;omega)⟩,fun h=>by rw [upL_ne L (by decide)] at h; obtain ⟨id1,ia,k0,k1,k2,k3,k4,k5,k6,k7⟩:=c8 h; exact ⟨id1,ia,by first|exact k0|(simp (disch:=omega) [k0];done)|omega|(simp;omega),by first|exact k1|(simp (disch:=omega) [k1];done)|omega|(simp;omega),by first|exact k2|(simp (disch:=omega) [k2];done)|omega|(simp;omega),by first|exact k3|(simp (disch:=omega) [k3];done)|omega|(simp;omega),by first|exact k4|(simp (disch:=omega) [k4];done)|omega|(simp;omega),by first|exact k5|(simp (disch:=omega) [k5];done)|omega|(simp;omega),by first|exact k6|(simp (disch:=omega) [k6];done)|omega|(simp;omega),by first|exact k7|(simp (disch:=omega) [k7];done)|omega|(simp;omega)⟩,?_,?_⟩ <;> first|(simp (disch:=omega) [b0,b15,b61,b62,b63,hmx,hrow,fc5,fn13,fno,f72,fh1];done)|omega|(simp;omega)|(simp [upL];assumption)|(simp (disch:=omega) [b0,b15,b61,b62,b63,hmx,hrow,fc5,fn13,fno,f72,fh1,upL];done)|(simp (disch:=omega) [b0,b15,b61,b62,b63,hmx,hrow,fc5,fn13,fno,f72,fh1,upL];assumption)
    ·simp only [List.getElem?_toArray,List.getElem?_cons_zero,List.getElem?_cons_succ,Option.some.injEq] at hoo
     subst hoo
     try simp only [Nat.zero_add,Nat.reduceAdd] at hxx ⊢
     have l0 : L 0 = true:=hpp 0 (by simp [pre,Region.binds])
     have fc0:=c0 l0
     have l4 : L 4 = true:=hpp 4 (by simp [pre,Region.binds])
     have fc4:=c4 l4
     have l6 : L 6 = true:=hpp 6 (by simp [pre,Region.binds])
     have fc6:=c6 l6
     have fn13:=n13 (hC.not hxx (k:=8) rfl (by simp [pre,Region.binds]))
     have fno:=no hxx
     obtain ⟨id1,ib,f73,fhb,fh1,fl1,fu1,flb,fub⟩:=id fc6
     refine AOPS.opapp (by simp (disch:=first|omega|(simp only[ln];omega)) [opApp.eq_def,aSrc_isl,aSrc_osl,aSrc_nsl,aSrc_int,wd_app,wd_app2,if_pos,wd_append,wd_take,wd_drop,List.nil_append,b0,b15,b61,b62,b63,hmx,hrow,fc0,fc4,fc6,fn13,fno,f73,fhb,fh1,hc1,hc2,hCl,htk,src_Wd' (P:=Tryz.prog) elT54]; first | rfl | exact ⟨rfl,rfl⟩ | exact ⟨rfl,rfl,rfl⟩) (by simp) (by simp) ?_
     simp only [puts_some,hdrop]
     refine AOPS.nil ?_
     refine ⟨?_,?_,?_,?_,?_,rfl,?_,fun q hq=>by obtain ⟨a,b,c⟩:=hrow q hq; have hn:=hne q hq; exact ⟨a,by omega,by simp (disch:=omega) [c,hn]⟩,?_,?_,?_,?_,fun h=>by rw [upL_ne L (by decide)] at h; obtain ⟨id1,k0,k1,k2,k3⟩:=c4 h; exact ⟨id1,by first|exact k0|(simp (disch:=omega) [k0];done)|omega|(simp;omega),by first|exact k1|(simp (disch:=omega) [k1];done)|omega|(simp;omega),by first|exact k2|(simp (disch:=omega) [k2];done)|omega|(simp;omega),by first|exact k3|(simp (disch:=omega) [k3];done)|omega|(simp;omega)⟩,fun h=>by rw [upL_ne L (by decide)] at h; obtain ⟨id1,k0,k1,k2,k3⟩:=c5 h; exact ⟨id1,by first|exact k0|(simp (disch:=omega) [k0];done)|omega|(simp;omega),by first|exact k1|(simp (disch:=omega) [k1];done)|omega|(simp;omega),by first|exact k2|(simp (disch:=omega) [k2];done)|omega|(simp;omega),by first|exact k3|(simp (disch:=omega) [k3];done)|omega|(simp;omega)⟩,fun h=>by rw [upL_ne L (by decide)] at h; obtain ⟨id1,ib,k0,k1,k2,k3,k4,k5,k6⟩:=c6 h; exact ⟨id1,ib,by first|exact k0|(simp (disch:=omega) [k0];done)|omega|(simp;omega),by first|exact k1|(simp (disch:=omega) [k1];done)|omega|(simp;omega),by first|exact k2|(simp (disch:=omega) [k2];done)|omega|(simp;omega),by first|exact k3|(simp (disch:=omega) [k3];done)|omega|(simp;omega),by first|exact k4|(simp (disch:=omega) [k4];done)|omega|(simp;omega),by first|exact k5|(simp (disch:=omega) [k5];done)|omega|(simp;omega),by first|exact k6|(simp (disch:=omega) [k6];done)|omega|(simp;omega)⟩,fun _=>⟨id1,mm,by first|(simp (disch:=omega) [fh1];done)|omega|(simp;omega)|assumption,by first|(simp (disch:=omega) [fh1];done)|omega|(simp;omega)|assumption,by first|(simp (disch:=omega) [fh1];done)|omega|(simp;omega)|assumption,by first|(simp (disch:=omega) [fh1];done)|omega|(simp;omega)|assumption,by first|(simp (disch:=omega) [fh1];done)|omega|(simp;omega)|assumption,by first|(simp (disch:=omega) [fh1];done)|omega|(simp;omega)|assumption,by first|(simp (disch:=omega) [fh1];done)|omega|(simp;omega)|assumption,by first|(simp (disch:=omega) [fh1];done)|omega|(simp;omega)|assumption⟩,fun h=>by rw [upL_ne L (by decide)] at h; obtain ⟨id1,ia,k0,k1,k2,k3,k4,k5,k6,k7⟩:=c8 h; exact ⟨id1,ia,by first|exact k0|(simp (disch:=omega) [k0];done)|omega|(simp;omega),by first|exact k1|(simp (disch:=omega) [k1];done)|omega|(simp;omega),by first|exact k2|(simp (disch:=omega) [k2];done)|omega|(simp;omega),by first|exact k3|(simp (disch:=omega) [k3];done)|omega|(simp;omega),by first|exact k4|(simp (disch:=omega) [k4];done)|omega|(simp;omega),by first|exact k5|(simp (disch:=omega) [k5];done)|omega|(simp;omega),by first|exact k6|(simp (disch:=omega) [k6];done)|omega|(simp;omega),by first|exact k7|(simp (disch:=omega) [k7];done)|omega|(simp;omega)⟩,?_,fun h=>by simp [upL] at h⟩ <;> first|(simp (disch:=omega) [b0,b15,b61,b62,b63,hmx,hrow,fc0,fc4,fc6,fn13,fno,f73,fhb,fh1];done)|omega|(simp;omega)|(simp [upL];assumption)|(simp (disch:=omega) [b0,b15,b61,b62,b63,hmx,hrow,fc0,fc4,fc6,fn13,fno,f73,fhb,fh1,upL];done)|(simp (disch:=omega) [b0,b15,b61,b62,b63,hmx,hrow,fc0,fc4,fc6,fn13,fno,f73,fhb,fh1,upL];assumption)
    ·simp only [List.getElem?_toArray,List.getElem?_cons_zero,List.getElem?_cons_succ,Option.some.injEq] at hoo
     subst hoo
     try simp only [Nat.zero_add,Nat.reduceAdd] at hxx ⊢
     have l0 : L 0 = true:=hpp 0 (by simp [pre,Region.binds])
     have fc0:=c0 l0
     have l1 : L 1 = true:=hpp 1 (by simp [pre,Region.binds])
     have fc1:=c1 l1
     have l2 : L 2 = true:=hpp 2 (by simp [pre,Region.binds])
     have fc2:=c2 l2
     have l3 : L 3 = true:=hpp 3 (by simp [pre,Region.binds])
     have fc3:=c3 l3
     have l4 : L 4 = true:=hpp 4 (by simp [pre,Region.binds])
     have fc4:=c4 l4
     have l5 : L 5 = true:=hpp 5 (by simp [pre,Region.binds])
     have fc5:=c5 l5
     have l6 : L 6 = true:=hpp 6 (by simp [pre,Region.binds])
     have fc6:=c6 l6
     have l7 : L 7 = true:=hpp 7 (by simp [pre,Region.binds])
     have fc7:=c7 l7
     have fn13:=n13 hxx
     obtain ⟨id1,ia,f74,fha,fh1,fl1,fu1,fla,fua,fne⟩:=id fc7
     refine .e ?_ (by simp (disch:=first|omega|(simp only[ln];omega)) [b0,b15,b61,b62,b63,hmx,hrow,fc0,fc1,fc2,fc3,fc4,fc5,fc6,fc7,fn13,f74,fha,fh1]; rfl)
     refine ⟨?_,?_,?_,?_,?_,rfl,?_,fun q hq=>by obtain ⟨a,b,c⟩:=hrow q hq; have hn:=hne q hq; exact ⟨a,by omega,by simp (disch:=omega) [c,hn]⟩,?_,?_,?_,?_,fun h=>by rw [upL_ne L (by decide)] at h; obtain ⟨id1,k0,k1,k2,k3⟩:=c4 h; exact ⟨id1,by first|exact k0|(simp (disch:=omega) [k0];done)|omega|(simp;omega),by first|exact k1|(simp (disch:=omega) [k1];done)|omega|(simp;omega),by first|exact k2|(simp (disch:=omega) [k2];done)|omega|(simp;omega),by first|exact k3|(simp (disch:=omega) [k3];done)|omega|(simp;omega)⟩,fun h=>by rw [upL_ne L (by decide)] at h; obtain ⟨id1,k0,k1,k2,k3⟩:=c5 h; exact ⟨id1,by first|exact k0|(simp (disch:=omega) [k0];done)|omega|(simp;omega),by first|exact k1|(simp (disch:=omega) [k1];done)|omega|(simp;omega),by first|exact k2|(simp (disch:=omega) [k2];done)|omega|(simp;omega),by first|exact k3|(simp (disch:=omega) [k3];done)|omega|(simp;omega)⟩,fun h=>by rw [upL_ne L (by decide)] at h; obtain ⟨id1,ib,k0,k1,k2,k3,k4,k5,k6⟩:=c6 h; exact ⟨id1,ib,by first|exact k0|(simp (disch:=omega) [k0];done)|omega|(simp;omega),by first|exact k1|(simp (disch:=omega) [k1];done)|omega|(simp;omega),by first|exact k2|(simp (disch:=omega) [k2];done)|omega|(simp;omega),by first|exact k3|(simp (disch:=omega) [k3];done)|omega|(simp;omega),by first|exact k4|(simp (disch:=omega) [k4];done)|omega|(simp;omega),by first|exact k5|(simp (disch:=omega) [k5];done)|omega|(simp;omega),by first|exact k6|(simp (disch:=omega) [k6];done)|omega|(simp;omega)⟩,fun h=>by rw [upL_ne L (by decide)] at h; obtain ⟨id1,ia,k0,k1,k2,k3,k4,k5,k6,k7⟩:=c7 h; exact ⟨id1,ia,by first|exact k0|(simp (disch:=omega) [k0];done)|omega|(simp;omega),by first|exact k1|(simp (disch:=omega) [k1];done)|omega|(simp;omega),by first|exact k2|(simp (disch:=omega) [k2];done)|omega|(simp;omega),by first|exact k3|(simp (disch:=omega) [k3];done)|omega|(simp;omega),by first|exact k4|(simp (disch:=omega) [k4];done)|omega|(simp;omega),by first|exact k5|(simp (disch:=omega) [k5];done)|omega|(simp;omega),by first|exact k6|(simp (disch:=omega) [k6];done)|omega|(simp;omega),by first|exact k7|(simp (disch:=omega) [k7];done)|omega|(simp;omega)⟩,fun _=>⟨id1,ia,by first|(simp (disch:=omega) [fha,fh1];done)|omega|(simp;omega)|assumption,by first|(simp (disch:=omega) [fha,fh1];done)|omega|(simp;omega)|assumption,by first|(simp (disch:=omega) [fha,fh1];done)|omega|(simp;omega)|assumption,by first|(simp (disch:=omega) [fha,fh1];done)|omega|(simp;omega)|assumption,by first|(simp (disch:=omega) [fha,fh1];done)|omega|(simp;omega)|assumption,by first|(simp (disch:=omega) [fha,fh1];done)|omega|(simp;omega)|assumption,by first|(simp (disch:=omega) [fha,fh1];done)|omega|(simp;omega)|assumption,by first|(simp (disch:=omega) [fha,fh1];done)|omega|(simp;omega)|assumption⟩,fun h=>by simp [upL] at h,?_⟩ <;> first|(simp (disch:=omega) [b0,b15,b61,b62,b63,hmx,hrow,fc0,fc1,fc2,fc3,fc4,fc5,fc6,fc7,fn13,f74,fha,fh1];done)|omega|(simp;omega)|(simp [upL];assumption)|(simp (disch:=omega) [b0,b15,b61,b62,b63,hmx,hrow,fc0,fc1,fc2,fc3,fc4,fc5,fc6,fc7,fn13,f74,fha,fh1,upL];done)|(simp (disch:=omega) [b0,b15,b61,b62,b63,hmx,hrow,fc0,fc1,fc2,fc3,fc4,fc5,fc6,fc7,fn13,f74,fha,fh1,upL];assumption)
    · simp at hoo
   ·rintro L ⟨e,H,mm,nt⟩ hL ⟨b0,b15,b61,b62,b63,hnt,hmx,hrow,c0,c1,c2,c3,c4,c5,c6,c7,c8,n13,no⟩
    replace c0:=c0 (hL 0 (by simp))
    replace c1:=c1 (hL 1 (by simp))
    replace c2:=c2 (hL 2 (by simp))
    replace c3:=c3 (hL 3 (by simp))
    replace c4:=c4 (hL 4 (by simp))
    replace c5:=c5 (hL 5 (by simp))
    replace c6:=c6 (hL 6 (by simp))
    replace c7:=c7 (hL 7 (by simp))
    replace c8:=c8 (hL 8 (by simp))
    clear n13 no
    simp only [] at b0 b15 b61 b62 b63 hnt hmx hrow c0 c1 c2 c3 c4 c5 c6 c7 c8
    subst hnt
    obtain ⟨id1,ia,h13,hia,hid1,hl1,hu1,hla,hua,hxa⟩:=c8
    rw [hst] at hia
    rw [hZ] at hid1
    refine hK25 _ _ ?_
    refine .up ?_
    refine .r ?_ (by simp (disch:=first|omega|(simp only[ln];omega)) [b63]; rfl)
    refine ⟨(hitP S).length - (j + 1),by omega,j + 1,fset f j id1,ia,rfl,by omega,by omega,hn_fr hrow hl1 (by first|omega|(simp;omega)) (by omega) hid1,hn_ne (fun q hq=>(hrow q hq).2.1) hla hxa,hn_inj (fun q hq=>(hrow q hq).2.1) hl1 hinj,?_,?_,?_,?_,?_,?_,?_,rfl⟩ <;> first|(simp (disch:=omega) [b0,h13,b61,b62,b63,hia];done)|omega|(simp;done)|(simp;omega)
  ·try simp only[dc]at h64
   have hjn : j = (hitP S).length:=by omega
   subst hjn
   refine .exit ?_
   refine hK21 _ _ ?_
   refine .q ?_ (by simp (disch:=first|omega|(simp only[ln];omega)) [g13]; rfl)
   refine .ret ?_
   exact hK _ _ _ _ _ _ trivial ((Fin.m (r:=.osl io 0 (hitP S).length)).restr (nsP io (hitP S).length f)) (hn_done (hcC_int S) (by first|omega|(simp;omega)) Ho hrow hne hinj)
end

end Go.Proofs.YtaibemhdfhchfaaGreat

/- Walks: hits of one's own: told, marked, held, compared. -/
namespace Go.Proofs.YtaibemhdfhchfaaGreat
open Go Go.RowKit
set_option linter.unusedSimpArgs false
set_option linter.unusedVariables false
set_option maxRecDepth 100000
attribute [local simp] szT2 byT2 agT2 unT2 zoT2 szT3 byT3 agT3 unT3 zoT3 szT27 byT27 agT27 flT27 fdT27_0 fdT27_1 fdT27_2 fdT27_3 zoT27 szT29 byT29 agT29 flT29 fdT29_0 fdT29_1 fdT29_2 zoT29 szT32 byT32 agT32 elT32 unT32 zoT32 szT54 byT54 agT54 elT54 unT54 zoT54 szT60 byT60 agT60 flT60 fdT60_0 fdT60_1 zoT60

def m1 (k : Int) (j : Nat) : List AV:=[.int .i64 (k + (j : Int))]
theorem m1_wd (k : Int) (m : Nat) : mkR (m1 k) m = wd .i64 (mZ k m):=by
  unfold mkR wd mZ; rw [List.map_map]
  exact List.map_congr_left fun j _=>by simp [m1]
theorem mZ_gt {k : Int} {m i : Nat} (h : i < m) : gt (mZ k m) i = k + (i : Int):=by
  unfold gt mZ; rw [List.getElem?_map,List.getElem?_range h]; rfl
theorem wd_row1 (l : List Int) : ∀ r ∈ wd .i64 l,r.length = 1:=by intro r h; obtain ⟨x,_,rfl⟩:=List.mem_map.1 h; rfl

section
attribute [local simp] idf_numS cells_numS numS_fold idf_numI cells_numI numI_fold Sp.av Sp.cells Sg.av Sg.cells
set_option maxHeartbeats 1000000 in
theorem hitsOf_nest (S : List Sg) (hl : S.length ≤ 1099511627776) (hz : sgF S = 0) (nx : Nat) : ACall Tryz.prog 32 [.isl (S.map Sg.cells)] (fun _=>none) nx (fun r H nx'=>∃ ix f,r = .tup [.osl ix 0 (hitP S).length,.bool true] ∧ HNst H nx nx' ix f (hitP S).length (hcC S) (hcZ S) ∧ ∀ k q,H k = some q → ∀ l ∈ q.2,nwrL nx l):=by
 obtain ⟨z1,z2⟩:=sgF_zero hz
 have hd : decide (sgF S = 0) = true:=decide_eq_true hz
 refine .b Tryz.func32 9 fun K hK=>?_
 refine .q ?_
 refine .sq fun K2 hK2=>?_
 refine .sq fun K3 hK3=>?_
 refine .region ?_
 refine .kf 1 (areSegs_fc S hl) hb75 ?_ (by simp (disch:=first|omega|(simp only[ln];omega)) [List.take_succ_cons,List.take_zero,hd]; rfl) (ha:=by simp (disch:=first|omega|(simp only[ln];omega)) [idf_Wd',hd])
 refine .e ?_ (by simp (disch:=first|omega|(simp only[ln];omega)) [hd]; rfl)
 refine hK3 _ ?_
 refine .c (t:=false) (fun h6=>?_) (fun h6=>?_)
 ·simp at h6
 ·try simp only[dc]at h6
  refine .skip ?_
  refine hK2 _ ?_
  refine .sq fun K4 hK4=>?_
  refine .region ?_
  refine .k 1 ?_
  refine .a (hits_nest S z1 z2 nx) hb118 ?_
  rintro _ H1 nx1 ⟨ix,f,rfl,hN,hw⟩
  refine .e ?_
  refine hK4 _ ?_
  refine .ret ?_
  exact hK _ _ _ _ _ trivial (Fin.m) (⟨ix,f,rfl,hN,hw⟩)
end
section
attribute [local simp] Sp.av Sp.cells Sg.av Sg.cells
set_option maxHeartbeats 1000000 in
theorem markInt64S_ac (n id : Nat) (es : List (List AV)) (k : Int) (HP : Heap) (nx : Nat) (hH : HP id = some (1,es)) (hn : es.length = n) (hw : ∀ row ∈ es,row.length = 1) (hk0 : 0 ≤ k) (hk1 : k ≤ 1000000000) (hn1 : n ≤ 1099511627776) : ACall Tryz.prog 66 [.osl id 0 n,.int .i64 k] HP nx (fun r H' nx'=>r = .int .i64 (k + (n : Int)) ∧ H' = hupd HP id (some (1,mkR (m1 k) n)) ∧ nx' = nx):=by
 refine .b Tryz.func66 19 fun K hK=>?_
 refine .q ?_
 refine .sq fun K2 hK2=>?_
 refine .q ?_
 refine .block ?_
 
 refine .loop (fun N s=>∃ i : Nat,N = n - i ∧ i ≤ n ∧ (s.heap = hupd HP id (some (1,cmR (m1 k) es i))) ∧ (s.nx = nx) ∧ s.env 0 = .osl id 0 n ∧ s.env 1 = .int .i64 (k + (i : Int)) ∧ s.env 5 = .int .i64 (i : Int) ∧ s.nt = 19) (n) (by refine ⟨0,by omega,by omega,by rw [cmR_zero]; exact (hupd_id hH).symm,rfl,?_,?_,?_,rfl⟩ <;> first|(simp (disch:=omega);done)|omega|(simp;done)|(simp;omega)|(simp (disch:=omega) <;> omega)) ?_
 rintro N ⟨e,H,mm,nt⟩ ⟨i,rfl,hi,rfl,rfl,g0,g1,g5,rfl⟩
 simp only [] at g0 g1 g5
 refine .sq fun K4 hK4=>?_
 refine .q ?_ (by simp (disch:=first|omega|(simp only[ln];omega)) [len_Wd (P:=Tryz.prog) #[32] rfl elT32,g0,g5]; rfl)
 refine .c (fun h9=>?_) (fun h9=>?_)
 ·try simp only[dc]at h9
  have hi' : i < n:=by omega
  obtain ⟨row,hrow⟩ : ∃ row,es[i]? = some row:=⟨es[i],by simp⟩
  have hrl:=hw row (List.mem_of_getElem? hrow)
  obtain ⟨r0,rfl⟩ : ∃ r0,row = [r0]:=by
    match row,hrl with
    | [a],_=>exact ⟨a,rfl⟩
  have hget : (cmR (m1 k) es i)[i]? = some [r0]:=by rw [cmR_get]; exact hrow
  have hcl : (cmR (m1 k) es i).length = n:=by rw [cmR_len _ _ (by omega)]; exact hn
  have hset : (cmR (m1 k) es i).set i [.int .i64 (k + (i : Int))] = cmR (m1 k) es (i + 1):=cmR_set (m1 k) es (i:=i) (by omega)
  generalize cmR (m1 k) es i = C at *
  have hgE : ∀ h : i < C.length,C[i] = [r0]:=fun h=>by rw [List.getElem?_eq_getElem h] at hget; simpa using hget
  refine .skip ?_
  refine hK4 _ ?_
  refine .sq fun K6 hK6=>?_
  refine .block ?_
  refine .q ?_ (by simp (disch:=first|omega|(simp only[ln];omega)) [idx_WdD (P:=Tryz.prog) elT32 szT2,if_pos,g0,g1,g5,hget,hcl,hgE]; rfl)
  refine .r ?_ (by simp (disch:=first|omega|(simp only[ln];omega)) [g1]; rfl)
  refine hK6 _ ?_
  refine .r ?_ (by simp (disch:=first|omega|(simp only[ln];omega)) [g5]; rfl)
  refine ⟨n - (i + 1),by omega,i + 1,rfl,by omega,by simp [hupd_same,List.set_set,hset],by simp,?_,?_,?_,rfl⟩ <;> first|(simp (disch:=omega) [g0,g1,g5];done)|omega|(simp;done)|(simp;omega)|(simp (disch:=omega) [g0,g1,g5] <;> omega)
 ·try simp only[dc]at h9
  have hin : i = n:=by omega
  subst hin
  subst hn
  refine .exit ?_
  refine hK2 _ ?_
  refine .q ?_ (by simp (disch:=first|omega|(simp only[ln];omega)) [g1]; rfl)
  refine .ret ?_
  exact hK _ _ _ _ _ trivial ((Fin.m)) (⟨rfl,by rw [cmR_end],rfl⟩)
end
set_option maxHeartbeats 1000000 in
theorem heldInt64S_fc (n : Nat) (k : Int) (hk0 : 0 ≤ k) (hk1 : k ≤ 1000000000) (hn1 : n ≤ 1099511627776) : FC Tryz.prog 67 [Wd .i64 (mZ k n),.int .i64 k] (.int .i64 (k + (n : Int))):=by
 refine .b Tryz.func67 21 (fun nx K hK=>?_)
 refine .q ?_
 refine .sq fun K2 hK2=>?_
 refine .q ?_
 refine .block ?_
 
 refine .loop (fun N s=>∃ i : Nat,N = n - i ∧ i ≤ n ∧ s.env 0 = Wd .i64 (mZ k n) ∧ s.env 1 = .int .i64 (k + (i : Int)) ∧ s.env 5 = .int .i64 (i : Int) ∧ s.nt = 21) (n) (by refine ⟨0,by omega,by omega,?_,?_,?_,rfl⟩ <;> first|(simp (disch:=omega);done)|omega|(simp;done)|(simp;omega)|(simp (disch:=omega) <;> omega)) ?_
 rintro N ⟨e,H,mm,nt⟩ ⟨i,rfl,hi,g0,g1,g5,rfl⟩
 simp only [] at g0 g1 g5
 refine .sq fun K4 hK4=>?_
 refine .q ?_ (by simp (disch:=first|omega|(simp only[ln];omega)) [len_Wd (P:=Tryz.prog) #[32] rfl elT32,g0,g5,mZ_len]; rfl)
 refine .c (t:=decide (i < n)) (fun h9=>?_) (fun h9=>?_)
 ·try simp only[dc]at h9
  have hi' : i < n:=by omega
  have hil : i < (mZ k n).length:=by rw [mZ_len]; omega
  have hat:=wd_at hil
  rw [mZ_gt hi'] at hat
  have hae : ∀ h : i < (wd .i64 (mZ k n)).length,(wd .i64 (mZ k n))[i] = [.int .i64 (k + (i : Int))]:=fun h=>by rw [List.getElem?_eq_getElem h] at hat; simpa using hat
  have hgz:=mZ_gt (k:=k) hi'
  refine .skip ?_
  refine hK4 _ ?_
  refine .sq fun K6 hK6=>?_
  refine .block ?_
  refine .sq fun K7 hK7=>?_
  refine .q ?_ (by simp (disch:=first|omega|(simp only[ln];omega)) [idx_WdD (P:=Tryz.prog) elT32 szT2,if_pos,g0,g1,g5,hat,hae,hgz,mZ_len,hi']; rfl)
  refine .c (t:=false) (fun h17=>?_) (fun h17=>?_)
  ·simp at h17
  ·try simp only[dc]at h17
   refine .skip ?_
   refine hK7 _ ?_
   refine .r ?_ (by simp (disch:=first|omega|(simp only[ln];omega)) [g1]; rfl)
   refine hK6 _ ?_
   refine .r ?_ (by simp (disch:=first|omega|(simp only[ln];omega)) [g5]; rfl)
   refine ⟨n - (i + 1),by omega,i + 1,rfl,by omega,?_,?_,?_,rfl⟩ <;> first|(simp (disch:=omega) [g0,g1,g5,Int.add_assoc];done)|omega|(simp;done)|(simp;omega)|(simp (disch:=omega) [g0,g1,g5,Int.add_assoc] <;> omega)
 ·try simp only[dc]at h9
  have hin : i = n:=by omega
  subst hin
  refine .exit ?_
  refine hK2 _ ?_
  refine .q ?_ (by simp (disch:=first|omega|(simp only[ln];omega)) [g1]; rfl)
  refine .ret ?_
  exact hK _ _ _ _ trivial (Fin.m)
set_option maxHeartbeats 1000000 in
theorem eqInt64S_fc (a : List Int) (ha : a.length ≤ 1048576) : FC Tryz.prog 65 [Wd .i64 a,Wd .i64 a] (.bool true):=by
 refine .b Tryz.func65 26 (fun nx K hK=>?_)
 refine .q ?_
 refine .sq fun K2 hK2=>?_
 refine .q ?_ (by simp (disch:=first|omega|(simp only[ln];omega)) [len_Wd (P:=Tryz.prog) #[32] rfl elT32]; rfl)
 refine .c (t:=false) (fun h10=>?_) (fun h10=>?_)
 ·simp at h10
 ·try simp only[dc]at h10
  refine .skip ?_
  refine hK2 _ ?_
  refine .sq fun K4 hK4=>?_
  refine .q ?_
  refine .block ?_
  
  refine .loop (fun N s=>∃ i : Nat,N = a.length - i ∧ i ≤ a.length ∧ s.env 0 = Wd .i64 a ∧ s.env 1 = Wd .i64 a ∧ s.env 5 = .int .i64 (i : Int) ∧ s.nt = 26) (a.length) (by refine ⟨0,by omega,by omega,?_,?_,?_,rfl⟩ <;> first|(simp (disch:=omega);done)|omega|(simp;done)|(simp;omega)) ?_
  rintro N ⟨e,H,mm,nt⟩ ⟨i,rfl,hi,g0,g1,g5,rfl⟩
  simp only [] at g0 g1 g5
  refine .sq fun K6 hK6=>?_
  refine .q ?_ (by simp (disch:=first|omega|(simp only[ln];omega)) [len_Wd (P:=Tryz.prog) #[32] rfl elT32,g0,g5]; rfl)
  refine .c (fun h14=>?_) (fun h14=>?_)
  ·try simp only[dc]at h14
   have hi' : i < a.length:=by omega
   have hat:=wd_at hi'
   have hae : ∀ h : i < (wd .i64 a).length,(wd .i64 a)[i] = [.int .i64 (gt a i)]:=fun h=>by rw [List.getElem?_eq_getElem h] at hat; simpa using hat
   refine .skip ?_
   refine hK6 _ ?_
   refine .sq fun K8 hK8=>?_
   refine .block ?_
   refine .sq fun K9 hK9=>?_
   refine .df 9 ?_ (by simp (disch:=first|omega|(simp only[ln];omega)) [runDf.eq_def,runF1,runF2,stepF.eq_def,updo.eq_def,hupo.eq_def,opSto1.eq_def,idx_WdD (P:=Tryz.prog) elT32 szT2,if_pos,g0,g1,g5,hat,hae,hi']; rfl)
   refine hK9 _ ?_
   refine .c (t:=false) (fun h25=>?_) (fun h25=>?_)
   ·simp at h25
   ·try simp only[dc]at h25
    refine .skip ?_
    refine hK8 _ ?_
    refine .r ?_ (by simp (disch:=first|omega|(simp only[ln];omega)) [g5]; rfl)
    refine ⟨a.length - (i + 1),by omega,i + 1,rfl,by omega,?_,?_,?_,rfl⟩ <;> first|(simp (disch:=omega) [g0,g1,g5];done)|omega|(simp;done)|(simp;omega)
  ·try simp only[dc]at h14
   refine .exit ?_
   refine hK4 _ ?_
   refine .q ?_
   refine .ret ?_
   exact hK _ _ _ _ trivial (Fin.m)
section
attribute [local simp] idf_numS cells_numS numS_fold idf_numI cells_numI numI_fold Pt.cells List.cons_append List.nil_append
set_option maxHeartbeats 1000000 in
theorem eqHit_fc (p : Pt) (a : List Int) (ha : a.length ≤ 1048576) : FC Tryz.prog 150 [.agg (Pt.cells p ++ [Wd .i64 a]),.agg (Pt.cells p ++ [Wd .i64 a])] (.bool true):=by
 refine .b Tryz.func150 17 (fun nx K hK=>?_) (hi:=by simp [idfL,idf,Pt.cells,idf_Wd'])
 refine .q ?_
 refine .sq fun K2 hK2=>?_
 refine .sq fun K3 hK3=>?_
 refine .region ?_
 refine .kf 4 (eqPoint_fc p) hb222 ?_
 refine .e ?_
 refine hK3 _ ?_
 refine .c (t:=false) (fun h10=>?_) (fun h10=>?_)
 ·simp at h10
 ·try simp only[dc]at h10
  refine .skip ?_
  refine hK2 _ ?_
  refine .sq fun K4 hK4=>?_
  refine .sq fun K5 hK5=>?_
  refine .region ?_
  refine .kf 4 (eqInt64S_fc a ha) hb65 ?_
  refine .e ?_
  refine hK5 _ ?_
  refine .c (t:=false) (fun h16=>?_) (fun h16=>?_)
  ·simp at h16
  ·try simp only[dc]at h16
   refine .skip ?_
   refine hK4 _ ?_
   refine .q ?_
   refine .ret ?_
   exact hK _ _ _ _ trivial (Fin.m)
set_option maxHeartbeats 2000000 in
theorem eqHitS_fc (S : List Sg) (hl : S.length ≤ 1048576) (hp : (hitP S).length ≤ 1680) : FC Tryz.prog 60 [.isl (hitR S),.isl (hitR S)] (.bool true):=by
 refine .b Tryz.func60 27 (fun nx K hK=>?_) (hi:=⟨idf_hitR S,idf_hitR S,trivial⟩)
 refine .q ?_
 refine .sq fun K2 hK2=>?_
 refine .q ?_
 refine .c (t:=false) (fun h10=>?_) (fun h10=>?_)
 ·simp at h10
 ·try simp only[dc]at h10
  refine .skip ?_
  refine hK2 _ ?_
  refine .sq fun K4 hK4=>?_
  refine .q ?_
  refine .block ?_
  
  refine .loop (fun N s=>∃ i : Nat,N = (hitP S).length - i ∧ i ≤ (hitP S).length ∧ s.env 0 = .isl (hitR S) ∧ s.env 1 = .isl (hitR S) ∧ s.env 5 = .int .i64 (i : Int) ∧ s.nt = 27) ((hitP S).length) (by refine ⟨0,by omega,by omega,?_,?_,?_,rfl⟩ <;> first|(simp (disch:=omega);done)|omega|(simp;done)|(simp;omega)) ?_
  rintro N ⟨e,H,mm,nt⟩ ⟨i,rfl,hi,g0,g1,g5,rfl⟩
  simp only [] at g0 g1 g5
  refine .sq fun K6 hK6=>?_
  refine .q ?_ (by simp (disch:=first|omega|(simp only[ln];omega)) [g0,g5,hitR_len]; rfl)
  refine .c (t:=decide (i < (hitP S).length)) (fun h14=>?_) (fun h14=>?_)
  ·try simp only[dc]at h14
   have hi' : i < (hitP S).length:=by omega
   obtain ⟨g,hg⟩ : ∃ g,(hitP S)[i]? = some g:=⟨_,List.getElem?_eq_getElem hi'⟩
   have hat : (hitR S)[i]? = some (hitC S g):=by unfold hitR; rw [List.getElem?_map,hg]; rfl
   have hae : ∀ h2 : i < (hitR S).length,(hitR S)[i] = hitC S g:=fun h2=>by rw [List.getElem?_eq_getElem h2] at hat; simpa using hat
   simp only [hitC,Pt.cells,List.cons_append,List.nil_append] at hat hae
   refine .skip ?_
   refine hK6 _ ?_
   refine .sq fun K8 hK8=>?_
   refine .block ?_
   refine .sq fun K9 hK9=>?_
   refine .d 10 ?_
   refine .k 8 (fun fs10 hfs10=>?_) (by simp (disch:=first|omega|(simp only[ln];omega)) [runDf.eq_def,runF1,runF2,stepF.eq_def,updo.eq_def,hupo.eq_def,opSto1.eq_def,List.take_succ_cons,List.take_zero,if_pos,g0,g1,g5,hat,hae,hi',hitR_len]; rfl)
   refine .f (eqHit_fc g.1 (onL S g.1) (Nat.le_trans (onL_len S g.1) hl)) hb150 ?_ (ha:=by simp (disch:=first|omega|(simp only[ln];omega)) [idf_Wd',if_pos,g0,g1,g5,hat,hae,hi',hitR_len])
   refine .k 1 (fun fs11 hfs11=>?_) (by simp (disch:=first|omega|(simp only[ln];omega)) [runDf.eq_def,runF1,runF2,stepF.eq_def,updo.eq_def,hupo.eq_def,opSto1.eq_def,List.take_succ_cons,List.take_zero,if_pos,g0,g1,g5,hat,hae,hi',hitR_len]; rfl)
   refine .r 10 (by simp only[ln,hfs10,hfs11];omega) ?_ (by simp (disch:=first|omega|(simp only[ln];omega)) [runDf.eq_def,runF1,runF2,stepF.eq_def,updo.eq_def,hupo.eq_def,opSto1.eq_def,if_pos,g0,g1,g5,hat,hae,hi',hitR_len]; rfl)
   refine hK9 _ ?_
   refine .c (t:=false) (fun h26=>?_) (fun h26=>?_)
   ·simp at h26
   ·try simp only[dc]at h26
    refine .skip ?_
    refine hK8 _ ?_
    refine .r ?_ (by simp (disch:=first|omega|(simp only[ln];omega)) [g5]; rfl)
    refine ⟨(hitP S).length - (i + 1),by omega,i + 1,rfl,by omega,?_,?_,?_,rfl⟩ <;> first|(simp (disch:=omega) [g0,g1,g5];done)|omega|(simp;done)|(simp;omega)
  ·try simp only[dc]at h14
   refine .exit ?_
   refine hK4 _ ?_
   refine .q ?_
   refine .ret ?_
   exact hK _ _ _ _ trivial (Fin.m)
end

end Go.Proofs.YtaibemhdfhchfaaGreat

/- Walks: hits marked and held. -/
namespace Go.Proofs.YtaibemhdfhchfaaGreat
open Go Go.RowKit
set_option linter.unusedSimpArgs false
set_option linter.unusedVariables false
set_option maxRecDepth 100000
attribute [local simp] szT2 byT2 agT2 unT2 zoT2 szT3 byT3 agT3 unT3 zoT3 szT25 byT25 agT25 unT25 zoT25 szT27 byT27 agT27 flT27 fdT27_0 fdT27_1 fdT27_2 fdT27_3 zoT27 szT29 byT29 agT29 flT29 fdT29_0 fdT29_1 fdT29_2 zoT29 szT32 byT32 agT32 elT32 unT32 zoT32 szT54 byT54 agT54 elT54 unT54 zoT54 szT60 byT60 agT60 flT60 fdT60_0 fdT60_1 zoT60

theorem row12 {l : List AV} (h : l.length = 12) : ∃ r0 r1 r2 r3 r4 r5 r6 r7 r8 r9 r10 r11,l = [r0,r1,r2,r3,r4,r5,r6,r7,r8,r9,r10,r11]:=by
  match l,h with
  | [a,b,c,d,e,f,g,h,i,j,k,l],_=>exact ⟨a,b,c,d,e,f,g,h,i,j,k,l,rfl⟩
theorem mkK_zero (z : Nat → List Int) (k : Int) : mkK z k 0 = k:=rfl
theorem mkK_b {z : Nat → List Int} {k : Int} (hk0 : 0 ≤ k) (hk1 : k ≤ 100000000) (hz : ∀ i,(z i).length ≤ 40) {i : Nat} (hi : i ≤ 2000) : 0 ≤ mkK z k i ∧ mkK z k i ≤ 100104000:=by
  have h1:=mkK_ge z k i
  have h2:=mkK_le (k:=k) hz i
  have h3 : (i : Int) * (12 + ((40 : Nat) : Int)) ≤ 2000 * 52:=by omega
  omega
theorem mcZ_len (z : Nat → List Int) (k : Int) (i : Nat) : (mcZ z k i).length = (z i).length:=mZ_len _ _

section
attribute [local simp] idf_numS cells_numS numS_fold idf_numI cells_numI numI_fold
set_option maxHeartbeats 16000000 in
theorem markHitS_nest (n ix lo hi : Nat) (f : Nat → Nat) (c : Nat → List AV) (z : Nat → List Int) (k : Int) (HP : Heap) (nx : Nat) (hc : ∀ i,(c i).length = 12) (hN : HNst HP lo hi ix f n c z) (hhi : hi ≤ nx) (hk0 : 0 ≤ k) (hk1 : k ≤ 100000000) (hn2 : n ≤ 2000) (hz : ∀ i,(z i).length ≤ 40) : ACall Tryz.prog 61 [.osl ix 0 n,.int .i64 k] HP nx (fun r H' nx'=>r = .int .i64 (mkK z k n) ∧ HNst H' lo hi ix f n (mcC z k) (mcZ z k) ∧ (∀ j,j < nx → j ≠ ix → (∀ q,q < n → j ≠ f q) → H' j = HP j) ∧ nx ≤ nx'):=by
 refine .b Tryz.func61 140 fun K hK=>?_
 refine .q ?_
 refine .sq fun K2 hK2=>?_
 refine .q ?_
 refine .block ?_
 
 refine .loop (fun N s=>∃ i : Nat,N = n - i ∧ i ≤ n ∧ (s.heap ix = some (13,cmR (hnR f (mcC z k) (mcZ z k)) (mkR (hnR f c z) n) i)) ∧ (∀ q,q < i → s.heap (f q) = some (1,wd .i64 (mcZ z k q))) ∧ (∀ q,i ≤ q → q < n → s.heap (f q) = some (1,wd .i64 (z q))) ∧ (∀ j,j < nx → j ≠ ix → (∀ q,q < n → j ≠ f q) → s.heap j = HP j) ∧ (nx ≤ s.nx) ∧ s.env 0 = .osl ix 0 n ∧ s.env 1 = .int .i64 (mkK z k i) ∧ s.env 5 = .int .i64 (i : Int) ∧ s.nt = 140) (n) (by refine ⟨0,by omega,by omega,by rw [cmR_zero]; exact hN.top,fun q h=>by omega,fun q _ h=>hN.row q h,fun _ _ _ _=>rfl,Nat.le_refl _,?_,?_,?_,rfl⟩ <;> first|(simp (disch:=omega) [mkK_zero];done)|omega|(simp;done)|(simp;omega)) ?_
 rintro N ⟨e,H,mm,nt⟩ ⟨i,rfl,hi,htop,hdone,hrow,hfr,hnx,g0,g1,g5,rfl⟩
 simp only [] at g0 g1 g5
 simp only [] at htop hdone hrow hfr hnx
 refine .sq fun K4 hK4=>?_
 refine .q ?_ (by simp (disch:=first|omega|(simp only[ln];omega)) [g0,g5,htop]; rfl)
 refine .c (t:=decide (i < n)) (fun h9=>?_) (fun h9=>?_)
 ·try simp only[dc]at h9
  have hi' : i < n:=by omega
  obtain ⟨f1,f2,f3⟩:=hN.fr i hi'
  have hne : ¬ ix = f i:=fun e=>f3 e.symm
  have hrw:=hrow i (Nat.le_refl _) hi'
  obtain ⟨m,hm⟩ : ∃ m,m = (z i).length:=⟨_,rfl⟩
  have hmz:=hz i
  rw [← hm] at hmz
  obtain ⟨r0,r1,r2,r3,r4,r5,r6,r7,r8,r9,r10,r11,hci⟩:=row12 (hc i)
  have hrow0 : hnR f c z i = [r0,r1,r2,r3,r4,r5,r6,r7,r8,r9,r10,r11,.osl (f i) 0 m]:=by unfold hnR; rw [hci,← hm]; rfl
  have hget : (cmR (hnR f (mcC z k) (mcZ z k)) (mkR (hnR f c z) n) i)[i]? = some [r0,r1,r2,r3,r4,r5,r6,r7,r8,r9,r10,r11,.osl (f i) 0 m]:=by rw [cmR_get,mkR_get _ hi',hrow0]
  have hcl : (cmR (hnR f (mcC z k) (mcZ z k)) (mkR (hnR f c z) n) i).length = n:=by rw [cmR_len _ _ (by rw [mkR_len]; omega),mkR_len]
  obtain ⟨K,hKe⟩ : ∃ K,K = mkK z k i:=⟨_,rfl⟩
  obtain ⟨hK0,hK1⟩:=mkK_b hk0 hk1 hz (show i ≤ 2000 by omega)
  rw [← hKe] at hK0 hK1 g1
  have hset : (cmR (hnR f (mcC z k) (mcZ z k)) (mkR (hnR f c z) n) i).set i [.int .u64 (K),.int .u64 (K + 1),.int .u64 (K + 1 + 1),.int .u64 (K + 1 + 1 + 1),.int .u64 (K + 1 + 1 + 1 + 1),.int .u64 (K + 1 + 1 + 1 + 1 + 1),.int .u64 (K + 1 + 1 + 1 + 1 + 1 + 1),.int .u64 (K + 1 + 1 + 1 + 1 + 1 + 1 + 1),.int .u64 (K + 1 + 1 + 1 + 1 + 1 + 1 + 1 + 1),.int .u64 (K + 1 + 1 + 1 + 1 + 1 + 1 + 1 + 1 + 1),.int .u64 (K + 1 + 1 + 1 + 1 + 1 + 1 + 1 + 1 + 1 + 1),.int .u64 (K + 1 + 1 + 1 + 1 + 1 + 1 + 1 + 1 + 1 + 1 + 1),.osl (f i) 0 m] = cmR (hnR f (mcC z k) (mcZ z k)) (mkR (hnR f c z) n) (i + 1):=by
    have h:=cmR_set (hnR f (mcC z k) (mcZ z k)) (mkR (hnR f c z) n) (i:=i) (by rw [mkR_len]; exact hi')
    have e : hnR f (mcC z k) (mcZ z k) i = [.int .u64 (K),.int .u64 (K + 1),.int .u64 (K + 1 + 1),.int .u64 (K + 1 + 1 + 1),.int .u64 (K + 1 + 1 + 1 + 1),.int .u64 (K + 1 + 1 + 1 + 1 + 1),.int .u64 (K + 1 + 1 + 1 + 1 + 1 + 1),.int .u64 (K + 1 + 1 + 1 + 1 + 1 + 1 + 1),.int .u64 (K + 1 + 1 + 1 + 1 + 1 + 1 + 1 + 1),.int .u64 (K + 1 + 1 + 1 + 1 + 1 + 1 + 1 + 1 + 1),.int .u64 (K + 1 + 1 + 1 + 1 + 1 + 1 + 1 + 1 + 1 + 1),.int .u64 (K + 1 + 1 + 1 + 1 + 1 + 1 + 1 + 1 + 1 + 1 + 1),.osl (f i) 0 m]:=by unfold hnR; rw [mcZ_len,← hm]; unfold mcC mC; rw [← hKe]; rfl
    rw [e] at h; exact h
  have hKs : K + 1 + 1 + 1 + 1 + 1 + 1 + 1 + 1 + 1 + 1 + 1 + 1 + (m : Int) = mkK z k (i + 1):=by unfold mkK; rw [← hKe,← hm]; omega
  have hZs : mkR (m1 (K + 1 + 1 + 1 + 1 + 1 + 1 + 1 + 1 + 1 + 1 + 1 + 1)) m = wd .i64 (mcZ z k i):=by
    rw [m1_wd]; unfold mcZ; rw [← hKe,← hm,show K + 12 = K + 1 + 1 + 1 + 1 + 1 + 1 + 1 + 1 + 1 + 1 + 1 + 1 by omega]
  generalize cmR (hnR f (mcC z k) (mcZ z k)) (mkR (hnR f c z) n) i = C at *
  have hgE : ∀ h : i < C.length,C[i] = [r0,r1,r2,r3,r4,r5,r6,r7,r8,r9,r10,r11,.osl (f i) 0 m]:=fun h=>by rw [List.getElem?_eq_getElem h] at hget; simpa using hget
  have hml : (wd .i64 (z i)).length = m:=by rw [wd_len,hm]
  refine .skip ?_
  refine hK4 _ ?_
  refine .sq fun K6 hK6=>?_
  refine .block ?_
  refine .q ?_ (by simp (disch:=first|omega|(simp only[ln];omega)) [if_pos,g0,g1,g5,htop,hget,hcl,hgE,hne]; rfl)
  refine .q ?_ (by simp (disch:=first|omega|(simp only[ln];omega)) [g1]; rfl)
  refine .q ?_ (by simp (disch:=first|omega|(simp only[ln];omega)) [if_pos,g0,g1,g5,htop,hget,hcl,hgE,hne]; rfl)
  refine .q ?_ (by simp (disch:=first|omega|(simp only[ln];omega)) [g1]; rfl)
  refine .q ?_ (by simp (disch:=first|omega|(simp only[ln];omega)) [if_pos,g0,g1,g5,htop,hget,hcl,hgE,hne]; rfl)
  refine .q ?_ (by simp (disch:=first|omega|(simp only[ln];omega)) [g1]; rfl)
  refine .q ?_ (by simp (disch:=first|omega|(simp only[ln];omega)) [if_pos,g0,g1,g5,htop,hget,hcl,hgE,hne]; rfl)
  refine .q ?_ (by simp (disch:=first|omega|(simp only[ln];omega)) [g1]; rfl)
  refine .q ?_ (by simp (disch:=first|omega|(simp only[ln];omega)) [if_pos,g0,g1,g5,htop,hget,hcl,hgE,hne]; rfl)
  refine .q ?_ (by simp (disch:=first|omega|(simp only[ln];omega)) [g1]; rfl)
  refine .q ?_ (by simp (disch:=first|omega|(simp only[ln];omega)) [if_pos,g0,g1,g5,htop,hget,hcl,hgE,hne]; rfl)
  refine .q ?_ (by simp (disch:=first|omega|(simp only[ln];omega)) [g1]; rfl)
  refine .q ?_ (by simp (disch:=first|omega|(simp only[ln];omega)) [if_pos,g0,g1,g5,htop,hget,hcl,hgE,hne]; rfl)
  refine .q ?_ (by simp (disch:=first|omega|(simp only[ln];omega)) [g1]; rfl)
  refine .q ?_ (by simp (disch:=first|omega|(simp only[ln];omega)) [if_pos,g0,g1,g5,htop,hget,hcl,hgE,hne]; rfl)
  refine .q ?_ (by simp (disch:=first|omega|(simp only[ln];omega)) [g1]; rfl)
  refine .q ?_ (by simp (disch:=first|omega|(simp only[ln];omega)) [if_pos,g0,g1,g5,htop,hget,hcl,hgE,hne]; rfl)
  refine .q ?_ (by simp (disch:=first|omega|(simp only[ln];omega)) [g1]; rfl)
  refine .q ?_ (by simp (disch:=first|omega|(simp only[ln];omega)) [if_pos,g0,g1,g5,htop,hget,hcl,hgE,hne]; rfl)
  refine .q ?_ (by simp (disch:=first|omega|(simp only[ln];omega)) [g1]; rfl)
  refine .q ?_ (by simp (disch:=first|omega|(simp only[ln];omega)) [if_pos,g0,g1,g5,htop,hget,hcl,hgE,hne]; rfl)
  refine .q ?_ (by simp (disch:=first|omega|(simp only[ln];omega)) [g1]; rfl)
  refine .q ?_ (by simp (disch:=first|omega|(simp only[ln];omega)) [if_pos,g0,g1,g5,htop,hget,hcl,hgE,hne]; rfl)
  refine .q ?_ (by simp (disch:=first|omega|(simp only[ln];omega)) [g1]; rfl)
  refine .region ?_
  refine .k 6 ?_ (by simp (disch:=first|omega|(simp only[ln];omega)) [List.take_succ_cons,List.take_zero,if_pos,g0,g1,g5,htop,hget,hcl,hgE,hne]; rfl)
  refine .a (markInt64S_ac m (f i) (wd .i64 (z i)) (K + 1 + 1 + 1 + 1 + 1 + 1 + 1 + 1 + 1 + 1 + 1 + 1) _ _ (by simp (disch:=omega) [hrw,f3]) hml (wd_row1 _) (by omega) (by omega) (by omega)) hb66 ?_ (ha:=by simp (disch:=first|omega|(simp only[ln];omega)) [idf_Wd',if_pos,g0,g1,g5,htop,hget,hcl,hgE,hne])
  rintro _ H2 nx2 ⟨rfl,hH2,rfl⟩
  simp only [] at hH2
  have ht2 : H2 ix = some (13,cmR (hnR f (mcC z k) (mcZ z k)) (mkR (hnR f c z) n) (i + 1)):=by rw [hH2]; simp [hupd,hne,hset,List.set_set]
  have ho2 : H2 (f i) = some (1,wd .i64 (mcZ z k i)):=by rw [hH2,hZs]; simp [hupd]
  have hoth : ∀ j,j ≠ ix → j ≠ f i → H2 j = H j:=fun j a b=>by rw [hH2]; simp [hupd,a,b]
  refine .e ?_ (by simp (disch:=first|omega|(simp only[ln];omega)) [if_pos,g0,g1,g5,htop,hget,hcl,hgE,hne]; rfl)
  refine hK6 _ ?_
  refine .r ?_ (by simp (disch:=first|omega|(simp only[ln];omega)) [g5]; rfl)
  refine ⟨n - (i + 1),by omega,i + 1,rfl,by omega,ht2,fun q hq=>by
    show H2 (f q) = _
    by_cases e : q = i
    · subst e; exact ho2
    · rw [hoth (f q) (hN.fr q (by omega)).2.2 (fun h=>e (hN.inj q i (by omega) hi' h))]; exact hdone q (by omega),fun q h1 h2=>by show H2 (f q) = _; rw [hoth (f q) (hN.fr q h2).2.2 (fun h=>by have:=hN.inj q i h2 hi' h; omega)]; exact hrow q (by omega) h2,fun j h1 h2 h3=>by show H2 j = _; rw [hoth j h2 (h3 i hi')]; exact hfr j h1 h2 h3,by omega,?_,?_,?_,rfl⟩ <;> first|(simp (disch:=omega) [g0,g1,g5,hKs];done)|omega|(simp;done)|(simp;omega)
 ·try simp only[dc]at h9
  have hin : i = n:=by omega
  subst hin
  refine .exit ?_
  refine hK2 _ ?_
  refine .q ?_ (by simp (disch:=first|omega|(simp only[ln];omega)) [g1]; rfl)
  refine .ret ?_
  exact hK _ _ _ _ _ trivial (Fin.m) (⟨rfl,⟨hN.ixr,hN.fr,hN.inj,by have h:=htop; have e:=cmR_end (hnR f (mcC z k) (mcZ z k)) (mkR (hnR f c z) i); rw [mkR_len] at e; rw [e] at h; exact h,hdone⟩,hfr,hnx⟩)
end
theorem idf_hnV (z : Nat → List Int) (k : Int) (n : Nat) : idf (.isl (mkR (hnV (mcC z k) (mcZ z k)) n)):=by
  simp only [idf,idfLL_iff,mkR,List.mem_map]
  rintro x ⟨i,_,rfl⟩
  simp [hnV,mcC,mC,idfL,idf,idf_Wd']

section
attribute [local simp] idf_numS cells_numS numS_fold idf_numI cells_numI numI_fold
set_option maxHeartbeats 16000000 in
theorem heldHitS_fc (n : Nat) (z : Nat → List Int) (k : Int) (hk0 : 0 ≤ k) (hk1 : k ≤ 100000000) (hn2 : n ≤ 2000) (hz : ∀ i,(z i).length ≤ 40) : FC Tryz.prog 62 [.isl (mkR (hnV (mcC z k) (mcZ z k)) n),.int .i64 k] (.int .i64 (mkK z k n)):=by
 refine .b Tryz.func62 166 (fun nx K hK=>?_) (hi:=⟨idf_hnV _ _ _,trivial,trivial⟩)
 refine .q ?_
 refine .sq fun K2 hK2=>?_
 refine .q ?_
 refine .block ?_
 
 refine .loop (fun N s=>∃ i : Nat,N = n - i ∧ i ≤ n ∧ s.env 0 = .isl (mkR (hnV (mcC z k) (mcZ z k)) n) ∧ s.env 1 = .int .i64 (mkK z k i) ∧ s.env 5 = .int .i64 (i : Int) ∧ s.nt = 166) (n) (by refine ⟨0,by omega,by omega,?_,?_,?_,rfl⟩ <;> first|(simp (disch:=omega) [mkK_zero];done)|omega|(simp;done)|(simp;omega)) ?_
 rintro N ⟨e,H,mm,nt⟩ ⟨i,rfl,hi,g0,g1,g5,rfl⟩
 simp only [] at g0 g1 g5
 refine .sq fun K4 hK4=>?_
 refine .q ?_ (by simp (disch:=first|omega|(simp only[ln];omega)) [g0,g5,mkR_len]; rfl)
 refine .c (t:=decide (i < n)) (fun h9=>?_) (fun h9=>?_)
 ·try simp only[dc]at h9
  have hi' : i < n:=by omega
  obtain ⟨m,hm⟩ : ∃ m,m = (z i).length:=⟨_,rfl⟩
  have hmz:=hz i
  rw [← hm] at hmz
  obtain ⟨K,hKe⟩ : ∃ K,K = mkK z k i:=⟨_,rfl⟩
  obtain ⟨hK0,hK1⟩:=mkK_b hk0 hk1 hz (show i ≤ 2000 by omega)
  rw [← hKe] at hK0 hK1 g1
  have hKs : K + 1 + 1 + 1 + 1 + 1 + 1 + 1 + 1 + 1 + 1 + 1 + 1 + (m : Int) = mkK z k (i + 1):=by unfold mkK; rw [← hKe,← hm]; omega
  have hat : (mkR (hnV (mcC z k) (mcZ z k)) n)[i]? = some [.int .u64 (K),.int .u64 (K + 1),.int .u64 (K + 1 + 1),.int .u64 (K + 1 + 1 + 1),.int .u64 (K + 1 + 1 + 1 + 1),.int .u64 (K + 1 + 1 + 1 + 1 + 1),.int .u64 (K + 1 + 1 + 1 + 1 + 1 + 1),.int .u64 (K + 1 + 1 + 1 + 1 + 1 + 1 + 1),.int .u64 (K + 1 + 1 + 1 + 1 + 1 + 1 + 1 + 1),.int .u64 (K + 1 + 1 + 1 + 1 + 1 + 1 + 1 + 1 + 1),.int .u64 (K + 1 + 1 + 1 + 1 + 1 + 1 + 1 + 1 + 1 + 1),.int .u64 (K + 1 + 1 + 1 + 1 + 1 + 1 + 1 + 1 + 1 + 1 + 1),Wd .i64 (mZ (K + 1 + 1 + 1 + 1 + 1 + 1 + 1 + 1 + 1 + 1 + 1 + 1) m)]:=by
    rw [mkR_get _ hi']
    unfold hnV mcC mcZ mC; rw [← hKe,← hm,show K + 12 = K + 1 + 1 + 1 + 1 + 1 + 1 + 1 + 1 + 1 + 1 + 1 + 1 by omega]; rfl
  have hml : (mkR (hnV (mcC z k) (mcZ z k)) n).length = n:=mkR_len _ _
  generalize mkR (hnV (mcC z k) (mcZ z k)) n = C at *
  have hae : ∀ h : i < C.length,C[i] = [.int .u64 (K),.int .u64 (K + 1),.int .u64 (K + 1 + 1),.int .u64 (K + 1 + 1 + 1),.int .u64 (K + 1 + 1 + 1 + 1),.int .u64 (K + 1 + 1 + 1 + 1 + 1),.int .u64 (K + 1 + 1 + 1 + 1 + 1 + 1),.int .u64 (K + 1 + 1 + 1 + 1 + 1 + 1 + 1),.int .u64 (K + 1 + 1 + 1 + 1 + 1 + 1 + 1 + 1),.int .u64 (K + 1 + 1 + 1 + 1 + 1 + 1 + 1 + 1 + 1),.int .u64 (K + 1 + 1 + 1 + 1 + 1 + 1 + 1 + 1 + 1 + 1),.int .u64 (K + 1 + 1 + 1 + 1 + 1 + 1 + 1 + 1 + 1 + 1 + 1),Wd .i64 (mZ (K + 1 + 1 + 1 + 1 + 1 + 1 + 1 + 1 + 1 + 1 + 1 + 1) m)]:=fun h=>by rw [List.getElem?_eq_getElem h] at hat; simpa using hat
  have hneg : decide (K + 1 + 1 + 1 + 1 + 1 + 1 + 1 + 1 + 1 + 1 + 1 + 1 + (m : Int) < 0) = false:=by simp; omega
  refine .skip ?_
  refine hK4 _ ?_
  refine .sq fun K6 hK6=>?_
  refine .block ?_
  refine .sq fun K7 hK7=>?_
  refine .q ?_ (by simp (disch:=first|omega|(simp only[ln];omega)) [if_pos,g0,g1,g5,hat,hae,hml,hi']; rfl)
  refine .c (t:=false) (fun h21=>?_) (fun h21=>?_)
  ·simp at h21
  ·try simp only[dc]at h21
   refine .skip ?_
   refine hK7 _ ?_
   refine .q ?_ (by simp (disch:=first|omega|(simp only[ln];omega)) [g1]; rfl)
   refine .sq fun K10 hK10=>?_
   refine .q ?_ (by simp (disch:=first|omega|(simp only[ln];omega)) [if_pos,g0,g1,g5,hat,hae,hml,hi']; rfl)
   refine .c (t:=false) (fun h33=>?_) (fun h33=>?_)
   ·simp at h33
   ·try simp only[dc]at h33
    refine .skip ?_
    refine hK10 _ ?_
    refine .q ?_ (by simp (disch:=first|omega|(simp only[ln];omega)) [g1]; rfl)
    refine .sq fun K13 hK13=>?_
    refine .q ?_ (by simp (disch:=first|omega|(simp only[ln];omega)) [if_pos,g0,g1,g5,hat,hae,hml,hi']; rfl)
    refine .c (t:=false) (fun h45=>?_) (fun h45=>?_)
    ·simp at h45
    ·try simp only[dc]at h45
     refine .skip ?_
     refine hK13 _ ?_
     refine .q ?_ (by simp (disch:=first|omega|(simp only[ln];omega)) [g1]; rfl)
     refine .sq fun K16 hK16=>?_
     refine .q ?_ (by simp (disch:=first|omega|(simp only[ln];omega)) [if_pos,g0,g1,g5,hat,hae,hml,hi']; rfl)
     refine .c (t:=false) (fun h57=>?_) (fun h57=>?_)
     ·simp at h57
     ·try simp only[dc]at h57
      refine .skip ?_
      refine hK16 _ ?_
      refine .q ?_ (by simp (disch:=first|omega|(simp only[ln];omega)) [g1]; rfl)
      refine .sq fun K19 hK19=>?_
      refine .q ?_ (by simp (disch:=first|omega|(simp only[ln];omega)) [if_pos,g0,g1,g5,hat,hae,hml,hi']; rfl)
      refine .c (t:=false) (fun h69=>?_) (fun h69=>?_)
      ·simp at h69
      ·try simp only[dc]at h69
       refine .skip ?_
       refine hK19 _ ?_
       refine .q ?_ (by simp (disch:=first|omega|(simp only[ln];omega)) [g1]; rfl)
       refine .sq fun K22 hK22=>?_
       refine .q ?_ (by simp (disch:=first|omega|(simp only[ln];omega)) [if_pos,g0,g1,g5,hat,hae,hml,hi']; rfl)
       refine .c (t:=false) (fun h81=>?_) (fun h81=>?_)
       ·simp at h81
       ·try simp only[dc]at h81
        refine .skip ?_
        refine hK22 _ ?_
        refine .q ?_ (by simp (disch:=first|omega|(simp only[ln];omega)) [g1]; rfl)
        refine .sq fun K25 hK25=>?_
        refine .q ?_ (by simp (disch:=first|omega|(simp only[ln];omega)) [if_pos,g0,g1,g5,hat,hae,hml,hi']; rfl)
        refine .c (t:=false) (fun h93=>?_) (fun h93=>?_)
        ·simp at h93
        ·try simp only[dc]at h93
         refine .skip ?_
         refine hK25 _ ?_
         refine .q ?_ (by simp (disch:=first|omega|(simp only[ln];omega)) [g1]; rfl)
         refine .sq fun K28 hK28=>?_
         refine .q ?_ (by simp (disch:=first|omega|(simp only[ln];omega)) [if_pos,g0,g1,g5,hat,hae,hml,hi']; rfl)
         refine .c (t:=false) (fun h105=>?_) (fun h105=>?_)
         ·simp at h105
         ·try simp only[dc]at h105
          refine .skip ?_
          refine hK28 _ ?_
          refine .q ?_ (by simp (disch:=first|omega|(simp only[ln];omega)) [g1]; rfl)
          refine .sq fun K31 hK31=>?_
          refine .q ?_ (by simp (disch:=first|omega|(simp only[ln];omega)) [if_pos,g0,g1,g5,hat,hae,hml,hi']; rfl)
          refine .c (t:=false) (fun h117=>?_) (fun h117=>?_)
          ·simp at h117
          ·try simp only[dc]at h117
           refine .skip ?_
           refine hK31 _ ?_
           refine .q ?_ (by simp (disch:=first|omega|(simp only[ln];omega)) [g1]; rfl)
           refine .sq fun K34 hK34=>?_
           refine .q ?_ (by simp (disch:=first|omega|(simp only[ln];omega)) [if_pos,g0,g1,g5,hat,hae,hml,hi']; rfl)
           refine .c (t:=false) (fun h129=>?_) (fun h129=>?_)
           ·simp at h129
           ·try simp only[dc]at h129
            refine .skip ?_
            refine hK34 _ ?_
            refine .q ?_ (by simp (disch:=first|omega|(simp only[ln];omega)) [g1]; rfl)
            refine .sq fun K37 hK37=>?_
            refine .q ?_ (by simp (disch:=first|omega|(simp only[ln];omega)) [if_pos,g0,g1,g5,hat,hae,hml,hi']; rfl)
            refine .c (t:=false) (fun h141=>?_) (fun h141=>?_)
            ·simp at h141
            ·try simp only[dc]at h141
             refine .skip ?_
             refine hK37 _ ?_
             refine .q ?_ (by simp (disch:=first|omega|(simp only[ln];omega)) [g1]; rfl)
             refine .sq fun K40 hK40=>?_
             refine .q ?_ (by simp (disch:=first|omega|(simp only[ln];omega)) [if_pos,g0,g1,g5,hat,hae,hml,hi']; rfl)
             refine .c (t:=false) (fun h153=>?_) (fun h153=>?_)
             ·simp at h153
             ·try simp only[dc]at h153
              refine .skip ?_
              refine hK40 _ ?_
              refine .q ?_ (by simp (disch:=first|omega|(simp only[ln];omega)) [g1]; rfl)
              refine .sq fun K43 hK43=>?_
              refine .region ?_
              refine .kf 6 (heldInt64S_fc m (K + 1 + 1 + 1 + 1 + 1 + 1 + 1 + 1 + 1 + 1 + 1 + 1) (by omega) (by omega) (by omega)) hb67 ?_ (by simp (disch:=first|omega|(simp only[ln];omega)) [List.take_succ_cons,List.take_zero,if_pos,g0,g1,g5,hat,hae,hml,hi']; rfl) (ha:=by simp (disch:=first|omega|(simp only[ln];omega)) [idf_Wd',if_pos,g0,g1,g5,hat,hae,hml,hi'])
              refine .e ?_ (by simp (disch:=first|omega|(simp only[ln];omega)) [if_pos,g0,g1,g5,hat,hae,hml,hi']; rfl)
              refine hK43 _ ?_
              refine .q ?_ (by simp (disch:=first|omega|(simp only[ln];omega)) [hneg]; rfl)
              refine .c (t:=false) (fun h164=>?_) (fun h164=>?_)
              ·simp at h164
              ·try simp only[dc]at h164
               refine .skip ?_
               refine hK6 _ ?_
               refine .r ?_ (by simp (disch:=first|omega|(simp only[ln];omega)) [g5]; rfl)
               refine ⟨n - (i + 1),by omega,i + 1,rfl,by omega,?_,?_,?_,rfl⟩ <;> first|(simp (disch:=omega) [g0,g1,g5,hKs];done)|omega|(simp;done)|(simp;omega)
 ·try simp only[dc]at h9
  have hin : i = n:=by omega
  subst hin
  refine .exit ?_
  refine hK2 _ ?_
  refine .q ?_ (by simp (disch:=first|omega|(simp only[ln];omega)) [g1]; rfl)
  refine .ret ?_
  exact hK _ _ _ _ trivial (Fin.m)
end

end Go.Proofs.YtaibemhdfhchfaaGreat
