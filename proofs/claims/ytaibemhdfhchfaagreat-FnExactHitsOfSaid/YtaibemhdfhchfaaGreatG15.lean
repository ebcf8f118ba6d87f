/- Walks: the division of words. -/
import Derived.Test.YtaibemhdfhchfaaGreatG14

namespace Go.Proofs.YtaibemhdfhchfaaGreat
open Go Go.RowKit
set_option linter.unusedSimpArgs false
set_option linter.unusedVariables false
set_option maxRecDepth 100000
attribute [local simp] szT3 byT3 agT3 unT3 zoT3 szT25 byT25 agT25 unT25 zoT25 szT108 byT108 agT108 elT108 unT108 zoT108

set_option maxHeartbeats 8000000 in
theorem divWords_fc (a d : Nat) (hd : d ≠ 0) (la : (mag (a : Int)).length ≤ 68719476736) (lb : (mag (d : Int)).length ≤ 68719476736) : FC Tryz.prog 238 [Wd .u64 (mag (a : Int)),Wd .u64 (mag (d : Int))] (.tup [Wd .u64 (mag ((a / d : Nat) : Int)),Wd .u64 (mag ((a % d : Nat) : Int))]):=by
 have da:=mag_dig (a : Int)
 have dd:=mag_dig (d : Int)
 have hcm:=cmpI_mag (a : Int) (d : Int)
 rw [Int.natAbs_natCast,Int.natAbs_natCast] at hcm
 refine .b Tryz.func238 326 (fun nx K hK=>?_)
 refine .q ?_
 refine .sq fun K2 hK2=>?_
 refine .sq fun K3 hK3=>?_
 refine .region ?_
 refine .kf 2 (cmpWords_fc (mag (a : Int)) (mag (d : Int)) (by omega) (by omega)) hb172 ?_
 refine .e ?_
 refine hK3 _ ?_
 refine .c (fun h34=>?_) (fun h34=>?_)
 ·try simp only[dc]at h34
  have hlt : a < d:=hcm.1.1 (by omega)
  refine .q ?_
  refine .ret ?_
  exact hK _ _ _ _ trivial (((Fin.mk (r:=.tup [.nsl,Wd .u64 (mag (a : Int))]) (by simp [aRes,aResL,aRes1])).weak (r':=.tup [Wd .u64 [],Wd .u64 (mag (a : Int))]) (fun _ _ _ _ h=>by
    obtain ⟨vs,rfl,u,r,e,h1,h2⟩:=h
    exact ⟨vs,rfl,u,r,e,nsl_Wd .u64 h1,h2⟩)).cast (by rw [Nat.div_eq_of_lt hlt,Nat.mod_eq_of_lt hlt,show ((0 : Nat) : Int) = 0 from rfl,mag_zero]))
 ·try simp only[dc]at h34
  have had : d ≤ a:=by
    rcases Nat.lt_or_ge a d with h | h
    · have:=hcm.1.2 h; omega
    · exact h
  have hlen : (mag (d : Int)).length ≤ (mag (a : Int)).length:=mag_len_mono (by simpa using had)
  have hdl : (mag (d : Int)).length ≠ 0:=by rw [Ne,mag_len0]; omega
  refine .skip ?_
  refine hK2 _ ?_
  refine .q ?_ (by simp (disch:=first|omega|(simp only[ln];omega)) [len_Wd (P:=Tryz.prog) #[108] rfl elT108]; rfl)
  refine .sq fun K6 hK6=>?_
  refine .q ?_
  refine .c (fun h39=>?_) (fun h39=>?_)
  ·try simp only[dc]at h39
   have h1l : (mag (d : Int)).length = 1:=by simp at h39; omega
   have hy:=mag_one h1l
   have hyg:=dd.gt (by omega) 0
   rw [hy] at hyg
   refine .q ?_ (by simp (disch:=first|omega|(simp only[ln];omega)) [if_pos,len_Wd (P:=Tryz.prog) #[108] rfl elT108]; rfl)
   refine .sq fun K9 hK9=>?_
   refine .q ?_ (by simp (disch:=first|omega|(simp only[ln];omega)) [len_Wd (P:=Tryz.prog) #[108] rfl elT108]; rfl)
   refine .block ?_
   refine .loop (fun n s=>∃ (i : Nat) (out : List Int) (r : Int),n = i ∧ i ≤ (mag (a : Int)).length ∧ out.length = (mag (a : Int)).length ∧ Dig 18446744073709551616 out ∧ 0 ≤ r ∧ r < d ∧ val 18446744073709551616 ((mag (a : Int)).drop i) = d * val 18446744073709551616 (out.drop i) + r ∧ s.env 0 = Wd .u64 (mag (a : Int)) ∧ s.env 1 = Wd .u64 (mag (d : Int)) ∧ s.env 7 = .osl nx 0 (mag (a : Int)).length ∧ s.env 8 = .int .u64 r ∧ s.env 9 = .int .i64 ((i : Int) - 1) ∧ s.heap nx = some (1,wd .u64 out) ∧ s.nt = 326) ((mag (a : Int)).length) (⟨(mag (a : Int)).length,List.replicate (mag (a : Int)).length 0,0,rfl,by omega,by simp,Dig.replicate _ (by omega) (by omega),by omega,by omega,by rw [List.drop_of_length_le (by omega),List.drop_of_length_le (by simp)]; simp [val],by simp,by simp,by simp,by simp,by simp,by simp,rfl⟩) ?_
   rintro n ⟨e,H,m,nt⟩ ⟨i,out,r,rfl,hi,ho,dO,hr0,hr,hv,g0,g1,g7,g8,g9,hH,rfl⟩
   simp only [] at g0 g1 g7 g8 g9 hH
   refine .sq fun K11 hK11=>?_
   refine .q ?_ (by simp (disch:=first|omega|(simp only[ln];omega)) [g9]; rfl)
   refine .c (fun h47=>?_) (fun h47=>?_)
   ·try simp only[dc]at h47
    obtain ⟨i,rfl⟩ : ∃ k,n = k + 1:=⟨n - 1,by omega⟩
    have e9 : ((i + 1 : Nat) : Int) - 1 = i:=by omega
    rw [e9] at g9
    have ga:=da.gt (by omega) i
    have st:=div1_step da dO (by omega) hr0 hr hv
    refine .skip ?_
    refine hK11 _ ?_
    refine .sq fun K13 hK13=>?_
    refine .block ?_
    refine .old fun hold=>?_
    refine .d 15 ?_
    refine .k 10 (fun fs14 hfs14=>?_) (by simp (disch:=first|omega|(simp only[ln];omega)) [runDf.eq_def,runF1,runF2,stepF.eq_def,updo.eq_def,hupo.eq_def,opSto1.eq_def,List.take_succ_cons,List.take_zero,idx_WdD (P:=Tryz.prog) elT108 szT25,if_pos,g0,g1,g7,g8,g9,hH,ho,hy,h1l,ld_ip agT25]; rfl)
    refine .f (div64_fc (hi:=r) (lo:=gt (mag (a : Int)) i) (y0:=d) hr0 hr ga.1 ga.2 (by omega)) hb278 ?_ (ha:=by simp (disch:=first|omega|(simp only[ln];omega)) [idf_Wd',idx_WdD (P:=Tryz.prog) elT108 szT25,if_pos,g0,g1,g7,g8,g9,hH,ho,hy,h1l,ld_ip agT25])
    refine .k 2 (fun fs15 hfs15=>?_) (by simp (disch:=first|omega|(simp only[ln];omega)) [runDf.eq_def,runF1,runF2,stepF.eq_def,updo.eq_def,hupo.eq_def,opSto1.eq_def,List.take_succ_cons,List.take_zero,idx_WdD (P:=Tryz.prog) elT108 szT25,if_pos,g0,g1,g7,g8,g9,hH,ho,hy,h1l,ld_ip agT25]; rfl)
    refine DP.runF1q (by simp (disch:=first|omega|(simp only[ln];omega)) [runDf.eq_def,runF1,runF2,stepF.eq_def,updo.eq_def,hupo.eq_def,opSto1.eq_def,idx_WdD (P:=Tryz.prog) elT108 szT25,if_pos,g0,g1,g7,g8,g9,hH,ho,hy,h1l,ld_ip agT25]; rfl) fun fq16 hfq16=>?_
    replace hfq16 : fq16.q = []:=by rw [hfq16]; simp [qids,asksB,Op.operands,topId]
    simp only [updo]
    refine .k 1 (fun fs17 hfs17=>?_) (by simp (disch:=first|omega|(simp only[ln];omega)) [runDf.eq_def,runF1,runF2,stepF.eq_def,updo.eq_def,hupo.eq_def,opSto1.eq_def,List.take_succ_cons,List.take_zero,idx_WdD (P:=Tryz.prog) elT108 szT25,if_pos,g0,g1,g7,g8,g9,hH,ho,hy,h1l,ld_ip agT25]; rfl)
    refine DQ.runG (m:=15) [13] (by simp only[ln,hfs14,hfs15,hfs17];omega) (by intro k f hk hex; simp only [List.mem_cons,List.not_mem_nil,or_false] at hex; rcases hex with rfl <;> (simp [List.getElem?_append,hfs14,hfs15,hfs17] at hk; subst hk; assumption)) _ _ _ (fun id q h j hj=>by have:=hold id q h; simp at hj; omega) (by kernel_rfl) rfl (by simp (disch:=first|omega|(simp only[ln];omega)) [runDf.eq_def,runF1,runF2,stepF.eq_def,updo.eq_def,hupo.eq_def,opSto1.eq_def,idx_WdD (P:=Tryz.prog) elT108 szT25,if_pos,g0,g1,g7,g8,g9,hH,ho,hy,h1l,ld_ip agT25]; rfl) ?_
    refine hK13 _ ?_
    refine .r ?_ (by simp (disch:=first|omega|(simp only[ln];omega)) [g9]; rfl)
    refine ⟨i,by omega,i,out.set i ((r * 18446744073709551616 + gt (mag (a : Int)) i) / d),(r * 18446744073709551616 + gt (mag (a : Int)) i) % d,rfl,by omega,by simp [ho],dO.set _ st.1 st.2.1,st.2.2.1,st.2.2.2.1,st.2.2.2.2,by simp [g0],by simp [g1],by simp [g7],by simp,by simp [g9],by simp,rfl⟩
   ·try simp only[dc]at h47
    obtain rfl : n = 0:=by omega
    obtain ⟨f1,f2⟩:=div1_fin hr0 hr hv
    have hr1 : Dig 18446744073709551616 [r]:=Dig.cons hr0 (by omega) (Dig.nil _)
    have t1 : trimW out = mag ((a / d : Nat) : Int):=by rw [mag_of dO,f1]
    have t2 : trimW [r] = mag ((a % d : Nat) : Int):=by rw [mag_of hr1]; simp only [val,Int.mul_zero,Int.add_zero]; rw [f2]
    refine .exit ?_
    refine hK9 _ ?_
    refine .sq fun K18 hK18=>?_
    refine .region ?_
    refine .k 1 ?_ (by simp (disch:=first|omega|(simp only[ln];omega)) [List.take_succ_cons,List.take_zero,g7,g8]; rfl)
    refine AOPS.frz1 65 nx 1 (wd .u64 out) (Wd .u64 out) (by simp [hH]) (by simp [g7,← ho]; first | exact fz_wd rfl | exact isl_take_wd (Nat.le_refl _)) ?_
    refine .f (trim_fc out (by omega)) hb240 ?_ (ha:=by simp (disch:=first|omega|(simp only[ln];omega)) [idf_Wd',g7,g8])
    refine .k 2 ?_ (by simp (disch:=first|omega|(simp only[ln];omega)) [List.take_succ_cons,List.take_zero,g7,g8]; rfl)
    refine AOPS.frz1 68 m 1 (wd .u64 [r]) (Wd .u64 [r]) (by simp) (by simp; first | exact fz_wd rfl | exact isl_take_wd (by simp)) ?_
    refine .f (trim_fc [r] (by simp)) hb240 ?_ (ha:=by simp (disch:=first|omega|(simp only[ln];omega)) [idf_Wd',g7,g8])
    refine .e ?_ (by simp (disch:=first|omega|(simp only[ln];omega)) [g7,g8]; rfl)
    refine hK18 _ ?_
    refine .ret ?_
    exact hK _ _ _ _ trivial ((Fin.mk (r:=.tup [Wd .u64 (trimW out),Wd .u64 (trimW [r])]) (by simp [aRes,aResL,aRes1])).cast (by rw [t1,t2]))
  ·try simp only[dc]at h39
   have h1l : (mag (d : Int)).length ≠ 1:=by simp at h39; omega
   obtain ⟨m,hm⟩ : ∃ m,(mag (d : Int)).length = m + 2:=⟨(mag (d : Int)).length - 2,by omega⟩
   obtain ⟨t,k,p,Vl,ht,htB,hbl,hk,rfl,hp0,hVl,dV,lV,vV,tV,hVB,_,hK0⟩:=dw_init had hm
   obtain ⟨J,hJ⟩ : ∃ J,(mag (a : Int)).length = J + (m + 2):=⟨(mag (a : Int)).length - (m + 2),by omega⟩
   rw [hJ,Nat.add_sub_cancel] at hK0
   obtain ⟨n,hn⟩ : ∃ n,n = m + 2:=⟨_,rfl⟩
   have hp1 : (1 : Int) ≤ 2 ^ k:=by omega
   have hsa:=shS_len da hp1 (Nat.le_refl (mag (a : Int)).length)
   have hsd:=shS_len dd hp1 (Nat.le_refl (mag (d : Int)).length)
   have hsa' : (shW (mag (a : Int)) (2 ^ k)).length = J + n + 1:=by unfold shW; omega
   have hsd' : (shW (mag (d : Int)) (2 ^ k)).length = n + 1:=by unfold shW; omega
   have x4 : TN (((n : Int) - 1).toNat) (m + 1):=TN.i (by omega)
   have x5 : TN (((n : Int) - 2).toNat) (m):=TN.i (by omega)
   have hdn : (mag (d : Int)).length = n:=by omega
   have han : (mag (a : Int)).length = J + n:=by omega
   have eJ : ((J + n : Nat) : Int) - (n : Int) = J:=by omega
   have eJ2 : (J : Int) + (n : Int) - (n : Int) = J:=by omega
   have eJ3 : TN (((J : Int) + 1).toNat) (J + 1):=TN.i (by omega)
   have wb : (64 : Int) - (bitLen t : Int) = k:=by omega
   rw [← hn] at lV
   have hPm:=powB_pos m
   have c64 : (k : Int) ≤ 64:=by omega
   have hmk : TN (min k 64) (k):=TN.i (by omega)
   have hmk2 : TN (min (64 - k) 64) (64 - k):=TN.i (by omega)
   have fdk : ∀ x : Int,x.fdiv (2 ^ k) = x / 2 ^ k:=fun x=>Int.fdiv_eq_ediv_of_nonneg _ (Int.le_of_lt hp0)
   refine .skip ?_
   refine hK6 _ ?_
   refine .sq fun K19 hK19=>?_
   refine .region ?_
   refine .kf 5 (lz64_fc t htB) hb237 ?_ (by simp (disch:=first|omega|(simp only[ln];omega)) [List.take_succ_cons,List.take_zero,idx_WdD (P:=Tryz.prog) elT108 szT25,if_pos,hdn,x4.e,ht,wb,ld_ip agT25]; rfl) (ha:=by simp (disch:=first|omega|(simp only[ln];omega)) [idf_Wd',idx_WdD (P:=Tryz.prog) elT108 szT25,if_pos,hdn,x4.e,ht,wb,ld_ip agT25])
   refine .e ?_ (by simp (disch:=first|omega|(simp only[ln];omega)) [idx_WdD (P:=Tryz.prog) elT108 szT25,if_pos,hdn,x4.e,ht,wb,ld_ip agT25]; rfl)
   refine hK19 _ ?_
   refine .sq fun K20 hK20=>?_
   refine .d 8 ?_
   refine .k 2 (fun fs21 hfs21=>?_) (by simp (disch:=first|omega|(simp only[ln];omega)) [runDf.eq_def,runF1,runF2,stepF.eq_def,updo.eq_def,hupo.eq_def,opSto1.eq_def,List.take_succ_cons,List.take_zero,if_pos,hsa',hsd',wd_len]; rfl)
   refine DP.ocall (shifted_fo (mag (d : Int)) k dd hk (by omega)) rfl rfl rfl hb279 (by simp (disch:=first|omega|(simp only[ln];omega)) [idf_Wd',hsa',hsd',wd_len]) (by simp (disch:=first|omega|(simp only[ln];omega)) [hsa',hsd',wd_len]) (by simp) ?_
   simp only [updo]
   refine .k 4 (fun fs22 hfs22=>?_) (by simp (disch:=first|omega|(simp only[ln];omega)) [runDf.eq_def,runF1,runF2,stepF.eq_def,updo.eq_def,hupo.eq_def,opSto1.eq_def,List.take_succ_cons,List.take_zero,if_pos,hsa',hsd',wd_len]; rfl)
   refine DP.ocall (shifted_fo (mag (a : Int)) k da hk (by omega)) rfl rfl rfl hb279 (by simp (disch:=first|omega|(simp only[ln];omega)) [idf_Wd',hsa',hsd',wd_len]) (by simp (disch:=first|omega|(simp only[ln];omega)) [hsa',hsd',wd_len]) (by simp) ?_
   simp only [updo]
   refine .r 8 (by simp only[ln,hfs21,hfs22];omega) ?_ (by simp (disch:=first|omega|(simp only[ln];omega)) [runDf.eq_def,runF1,runF2,stepF.eq_def,updo.eq_def,hupo.eq_def,opSto1.eq_def,if_pos,hsa',hsd',wd_len]; rfl)
   refine hK20 _ ?_
   refine AWP.frz1 11 (nx + 2) 1 (wd .u64 (shW (mag (d : Int)) (2 ^ k))) (Wd .u64 Vl) (by simp (disch:=omega)) (by simp; rw [fz_wdt (by omega),hVl,hn]) ?_
   refine .q ?_ (by simp (disch:=first|omega|(simp only[ln];omega)) [if_pos,len_Wd (P:=Tryz.prog) #[108] rfl elT108,han,eJ,eJ2]; rfl)
   refine .sq fun K24 hK24=>?_
   refine .q ?_ (by simp (disch:=first|omega|(simp only[ln];omega)) [len_Wd (P:=Tryz.prog) #[108] rfl elT108,han,eJ,eJ2]; rfl)
   refine .block ?_
   obtain ⟨iu,hiu⟩ : ∃ iu,iu = nx + 7:=⟨_,rfl⟩
   obtain ⟨io,hio⟩ : ∃ io,io = nx + 10:=⟨_,rfl⟩
   have hne : iu ≠ io:=by omega
   refine .loop (fun N s=>∃ (j : Nat) (u out : List Int),N = j ∧ j ≤ J + 1 ∧ Kn ((a : Int) * 2 ^ k) ((d : Int) * 2 ^ k) u out j ∧ u.length = J + n + 1 ∧ out.length = J + 1 ∧ s.env 6 = .int .i64 (n : Int) ∧ s.env 10 = .int .i64 (k : Int) ∧ s.env 11 = Wd .u64 Vl ∧ s.env 12 = .osl iu 0 (J + n + 1) ∧ s.env 13 = .osl io 0 (J + 1) ∧ s.env 14 = .int .i64 ((j : Int) - 1) ∧ s.heap iu = some (1,wd .u64 u) ∧ s.heap io = some (1,wd .u64 out) ∧ s.nt = 326) (J + 1) (⟨J + 1,shW (mag (a : Int)) (2 ^ k),List.replicate (J + 1) 0,rfl,by omega,hK0,hsa',by simp,by simp,by simp,by simp,by simp (disch:=omega) [hiu,hsa',wd_len],by simp (disch:=omega) [hio,eJ3.e],by simp,by simp (disch:=omega) [hiu],by simp (disch:=omega) [hio,eJ3.e],rfl⟩) ?_
   clear hcm h34 had hlen hdl h39 h1l hm ht htB hbl tV hJ hsa hsd hsa' hsd' eJ eJ2 eJ3 wb hK0 lb hdn
   rintro N ⟨e,H,mm,nt⟩ ⟨j,u,out,rfl,hj,hKn,hul,hol,h6,h10,h11,h12,h13,h14,hU,hO,rfl⟩
   simp only [] at h6 h10 h11 h12 h13 h14 hU hO
   refine .sq fun K26 hK26=>?_
   refine .q ?_ (by simp (disch:=first|omega|(simp only[ln];omega)) [h14]; rfl)
   refine .c (fun h95=>?_) (fun h95=>?_)
   ·try simp only[dc]at h95
    obtain ⟨j,rfl⟩ : ∃ k,N = k + 1:=⟨N - 1,by omega⟩
    have e14 : ((j + 1 : Nat) : Int) - 1 = j:=by omega
    rw [e14] at h14
    have hz:=hKn.top (n:=n) (by rw [hn]; exact hVB)
    have hw:=win_lt hKn.dig (j:=j) (m:=m) (by rw [← hn]; exact hz)
    have hwd:=hKn.wide
    have tg:=top_ge dV (m:=m)
    rw [vV] at tg
    have g1:=hKn.dig.gt (by omega) (j + m + 2)
    have g2:=hKn.dig.gt (by omega) (j + m + 1)
    have g3:=hKn.dig.gt (by omega) (j + m)
    have gv1:=dV.gt (by omega) (m + 1)
    have gv2:=dV.gt (by omega) m
    have x1 : TN (((j : Int) + (n : Int)).toNat) (j + m + 2):=TN.i (by omega)
    have x2 : TN (((j : Int) + (n : Int) - 1).toNat) (j + m + 1):=TN.i (by omega)
    have x3 : TN (((j : Int) + (n : Int) - 2).toNat) (j + m):=TN.i (by omega)
    have x7 : TN (((j : Int) + (n : Int)).toNat) (j + n):=TN.i (by omega)
    have hjo : j < J + 1:=by omega
    have hW0:=val_nonneg (hKn.dig.drop j)
    refine .skip ?_
    refine hK26 _ ?_
    refine .sq fun K28 hK28=>?_
    refine .block ?_
    refine .q ?_
    refine .sq fun K30 hK30=>?_
    have J30 : ∀ s : St,(∃ q : Int,0 ≤ q ∧ q < 18446744073709551616 ∧ val 18446744073709551616 (u.drop j) < (q + 1) * ((d : Int) * 2 ^ k) ∧ s.env 6 = .int .i64 (n : Int) ∧ s.env 10 = .int .i64 (k : Int) ∧ s.env 11 = Wd .u64 Vl ∧ s.env 12 = .osl iu 0 (J + n + 1) ∧ s.env 13 = .osl io 0 (J + 1) ∧ s.env 14 = .int .i64 (j : Int) ∧ s.env 15 = .int .u64 q ∧ s.heap iu = some (1,wd .u64 u) ∧ s.heap io = some (1,wd .u64 out) ∧ s.nt = 326) → K30 s:=by
     clear h6 h10 h11 h12 h13 h14 hU hO hw hwd tg g1 g2 g3 gv1 gv2
     rintro ⟨e,H,mm,nt⟩ ⟨q,q0,qB,qlt,h6,h10,h11,h12,h13,h14,h15,hU,hO,rfl⟩
     simp only [] at h6 h10 h11 h12 h13 h14 h15 hU hO
     refine hK30 _ ?_
     refine .q ?_
     refine .sq fun K32 hK32=>?_
     refine .q ?_ (by simp (disch:=first|omega|(simp only[ln];omega)) [h6]; rfl)
     refine .block ?_
     refine .loop (fun N s=>∃ (i : Nat) (u1 : List Int) (br c : Int),N = n - i ∧ i ≤ n ∧ Win u u1 j n (-(q * val 18446744073709551616 (Vl.take i)) + (18446744073709551616 : Int) ^ i * (br + c)) ∧ 0 ≤ br ∧ br ≤ 1 ∧ 0 ≤ c ∧ c < 18446744073709551616 ∧ s.env 6 = .int .i64 (n : Int) ∧ s.env 10 = .int .i64 (k : Int) ∧ s.env 11 = Wd .u64 Vl ∧ s.env 12 = .osl iu 0 (J + n + 1) ∧ s.env 13 = .osl io 0 (J + 1) ∧ s.env 14 = .int .i64 (j : Int) ∧ s.env 15 = .int .u64 q ∧ s.env 20 = .int .u64 br ∧ s.env 21 = .int .u64 c ∧ s.env 175 = .int .i64 (n : Int) ∧ s.env 176 = .int .i64 (i : Int) ∧ s.heap iu = some (1,wd .u64 u1) ∧ s.heap io = some (1,wd .u64 out) ∧ s.nt = 326) (n) (⟨0,u,0,0,by omega,by omega,(Win.refl hKn.dig j n).cast (by simp [val]),by omega,by omega,by omega,by omega,by simp [h6],by simp [h10],by simp [h11],by simp [h12],by simp [h13],by simp [h14],by simp [h15],by simp,by simp,by simp,by simp,by simp (disch:=omega) [hU],by simp (disch:=omega) [hO],rfl⟩) ?_
     clear h6 h10 h11 h12 h13 h14 h15 hU hO
     rintro N ⟨e,H,mm,nt⟩ ⟨i,u1,br,c,rfl,hi,w,br0,br1,c0,cB,h6,h10,h11,h12,h13,h14,h15,h20,h21,h175,h176,hU,hO,rfl⟩
     simp only [] at h6 h10 h11 h12 h13 h14 h15 h20 h21 h175 h176 hU hO
     have hu1 : u1.length = J + n + 1:=w.len.trans hul
     refine .q ?_ (by simp (disch:=first|omega|(simp only[ln];omega)) [h175,h176]; rfl)
     refine .sq fun K35 hK35=>?_
     refine .c (fun h177=>?_) (fun h177=>?_)
     ·try simp only[dc]at h177
      have hi' : i < n:=by omega
      have ws:=win_sub w hi (by omega) dV q0 qB br0 br1 c0 cB
      have gvi:=dV.gt (by omega) i
      have gui:=w.dig.gt (by omega) (j + i)
      have x6 : TN (((j : Int) + (i : Int)).toNat) (j + i):=TN.i (by omega)
      have wm0:=ws.1
      have wm1:=ws.2.1
      have wm2:=ws.2.2.1
      refine .skip ?_
      refine hK35 _ ?_
      refine .sq fun K36 hK36=>?_
      refine .block ?_
      refine .q ?_ (by simp (disch:=first|omega|(simp only[ln];omega)) [h176]; rfl)
      refine .sq fun K38 hK38=>?_
      refine .region ?_
      refine .kf 5 (mul64_fc q (gt Vl i) q0 qB gvi.1 gvi.2) hb168 ?_ (by simp (disch:=first|omega|(simp only[ln];omega)) [List.take_succ_cons,List.take_zero,idx_WdD (P:=Tryz.prog) elT108 szT25,if_pos,h11,h15,lV,ld_ip agT25]; rfl) (ha:=by simp (disch:=first|omega|(simp only[ln];omega)) [idf_Wd',idx_WdD (P:=Tryz.prog) elT108 szT25,if_pos,h11,h15,lV,ld_ip agT25])
      refine .e ?_ (by simp (disch:=first|omega|(simp only[ln];omega)) [idx_WdD (P:=Tryz.prog) elT108 szT25,if_pos,h11,h15,lV,ld_ip agT25]; rfl)
      refine hK38 _ ?_
      refine .q ?_
      refine .sq fun K40 hK40=>?_
      refine .region ?_
      refine .k 2 ?_ (by simp (disch:=first|omega|(simp only[ln];omega)) [List.take_succ_cons,List.take_zero,h21]; rfl)
      refine .en (FE.add64 nb169 (q * gt Vl i % 18446744073709551616) c 0 (by omega) c0 (by omega) (by omega)) ?_ (ha:=by simp (disch:=first|omega|(simp only[ln];omega)) [idf_Wd',h21])
      refine .e ?_ (by simp (disch:=first|omega|(simp only[ln];omega)) [h21]; rfl)
      refine hK40 _ ?_
      refine .q ?_
      refine .region ?_
      refine .k 12 ?_ (by simp (disch:=first|omega|(simp only[ln];omega)) [List.take_succ_cons,List.take_zero,idx_WdD (P:=Tryz.prog) elT108 szT25,if_pos,h12,h14,h20,hU,x6.e,hu1,ld_ip agT25]; rfl)
      refine .en (FE.sub64 nb241 (gt u1 (j + i)) ((q * gt Vl i % 18446744073709551616 + c) % 18446744073709551616) br gui.1 (Int.emod_nonneg _ (by omega)) (Int.emod_lt_of_pos _ (by omega)) br0 br1) ?_ (ha:=by simp (disch:=first|omega|(simp only[ln];omega)) [idf_Wd',idx_WdD (P:=Tryz.prog) elT108 szT25,if_pos,h12,h14,h20,hU,x6.e,hu1,ld_ip agT25])
      refine .e ?_ (by simp (disch:=first|omega|(simp only[ln];omega)) [idx_WdD (P:=Tryz.prog) elT108 szT25,if_pos,h12,h14,h20,hU,x6.e,hu1,ld_ip agT25]; rfl)
      refine hK36 _ ?_
      refine .r ?_ (by simp (disch:=first|omega|(simp only[ln];omega)) [h176]; rfl)
      refine ⟨n - (i + 1),by omega,i + 1,u1.set (j + i) ((gt u1 (j + i) - (q * gt Vl i % 18446744073709551616 + c) % 18446744073709551616 - br) % 18446744073709551616),_,_,rfl,by omega,ws.2.2.2,by split <;> omega,by split <;> omega,ws.2.1,ws.2.2.1,by simp [h6],by simp [h10],by simp [h11],by simp [h12],by simp [h13],by simp [h14],by simp [h15],by simp,by simp,by simp [h175],by simp (disch:=omega) [h176],by simp (disch:=omega) [hU],by simp (disch:=omega) [hO],rfl⟩
     ·try simp only[dc]at h177
      have hin : i = n:=by omega
      rw [hin,val_take_all (by omega),vV] at w
      have wl:=win_sub_last w (by omega) br0 br1 c0 cB
      have gun:=w.dig.gt (by omega) (j + n)
      refine .exit ?_
      refine hK32 _ ?_
      refine .sq fun K42 hK42=>?_
      refine .region ?_
      refine .k 12 ?_ (by simp (disch:=first|omega|(simp only[ln];omega)) [List.take_succ_cons,List.take_zero,idx_WdD (P:=Tryz.prog) elT108 szT25,if_pos,h6,h12,h14,h20,h21,hU,x7.e,hu1,ld_ip agT25]; rfl)
      refine .en (FE.sub64 nb241 (gt u1 (j + n)) c br gun.1 c0 cB br0 br1) ?_ (ha:=by simp (disch:=first|omega|(simp only[ln];omega)) [idf_Wd',idx_WdD (P:=Tryz.prog) elT108 szT25,if_pos,h6,h12,h14,h20,h21,hU,x7.e,hu1,ld_ip agT25])
      refine .e ?_ (by simp (disch:=first|omega|(simp only[ln];omega)) [idx_WdD (P:=Tryz.prog) elT108 szT25,if_pos,h6,h12,h14,h20,h21,hU,x7.e,hu1,ld_ip agT25]; rfl)
      refine hK42 _ ?_
      refine .sq fun K43 hK43=>?_
      refine .block ?_
      refine .loop (fun N s=>∃ (q : Int) (u1 : List Int) (br : Int),N = q.toNat ∧ Win u u1 j n (-(q * ((d : Int) * 2 ^ k)) + (18446744073709551616 : Int) ^ (n + 1) * br) ∧ val 18446744073709551616 (u.drop j) < (q + 1) * ((d : Int) * 2 ^ k) ∧ 0 ≤ q ∧ q < 18446744073709551616 ∧ (br = 0 ∨ br = 1) ∧ s.env 6 = .int .i64 (n : Int) ∧ s.env 10 = .int .i64 (k : Int) ∧ s.env 11 = Wd .u64 Vl ∧ s.env 12 = .osl iu 0 (J + n + 1) ∧ s.env 13 = .osl io 0 (J + 1) ∧ s.env 14 = .int .i64 (j : Int) ∧ s.env 15 = .int .u64 q ∧ s.env 20 = .int .u64 br ∧ s.heap iu = some (1,wd .u64 u1) ∧ s.heap io = some (1,wd .u64 out) ∧ s.nt = 326) (q.toNat) (⟨q,u1.set (j + n) ((gt u1 (j + n) - c - br) % 18446744073709551616),(if gt u1 (j + n) < c + br then 1 else 0),rfl,wl,qlt,q0,qB,by split <;> simp,by simp [h6],by simp [h10],by simp [h11],by simp [h12],by simp [h13],by simp [h14],by simp [h15],by simp,by simp (disch:=omega) [hU],by simp (disch:=omega) [hO],rfl⟩) ?_
      clear h6 h10 h11 h12 h13 h14 h15 h20 h21 h175 h176 hU hO hu1 wl gun w qlt q0 qB
      rintro N ⟨e,H,mm,nt⟩ ⟨q,u1,br,rfl,w,qlt,q0,qB,hbr,h6,h10,h11,h12,h13,h14,h15,h20,hU,hO,rfl⟩
      simp only [] at h6 h10 h11 h12 h13 h14 h15 h20 hU hO
      have hu1 : u1.length = J + n + 1:=w.len.trans hul
      refine .sq fun K44 hK44=>?_
      refine .q ?_ (by simp (disch:=first|omega|(simp only[ln];omega)) [h20]; rfl)
      refine .c (fun h233=>?_) (fun h233=>?_)
      ·try simp only[dc]at h233
       have hb1 : br = 1:=by simpa using h233
       subst hb1
       rw [Int.mul_one] at w
       have wlt:=w.lt hz
       have hneg : val 18446744073709551616 (u.drop j) < q * ((d : Int) * 2 ^ k):=by omega
       have hq1 : 1 ≤ q:=by
         rcases Int.lt_or_le q 1 with h | h
         · have : q = 0:=by omega
           subst this; omega
         · exact h
       refine .skip ?_
       refine hK44 _ ?_
       refine .block ?_
       refine .q ?_ (by simp (disch:=first|omega|(simp only[ln];omega)) [h15]; rfl)
       refine .q ?_
       refine .sq fun K48 hK48=>?_
       refine .q ?_ (by simp (disch:=first|omega|(simp only[ln];omega)) [h6]; rfl)
       refine .block ?_
       refine .loop (fun N s=>∃ (i : Nat) (u2 : List Int) (c : Int),N = n - i ∧ i ≤ n ∧ Win u u2 j n (-(q * ((d : Int) * 2 ^ k)) + (18446744073709551616 : Int) ^ (n + 1) + val 18446744073709551616 (Vl.take i) - (18446744073709551616 : Int) ^ i * c) ∧ 0 ≤ c ∧ c ≤ 1 ∧ s.env 6 = .int .i64 (n : Int) ∧ s.env 10 = .int .i64 (k : Int) ∧ s.env 11 = Wd .u64 Vl ∧ s.env 12 = .osl iu 0 (J + n + 1) ∧ s.env 13 = .osl io 0 (J + 1) ∧ s.env 14 = .int .i64 (j : Int) ∧ s.env 15 = .int .u64 (q - 1) ∧ s.env 20 = .int .u64 1 ∧ s.env 26 = .int .u64 c ∧ s.env 236 = .int .i64 (n : Int) ∧ s.env 237 = .int .i64 (i : Int) ∧ s.heap iu = some (1,wd .u64 u2) ∧ s.heap io = some (1,wd .u64 out) ∧ s.nt = 326) (n) (⟨0,u1,0,by omega,by omega,w.cast (by simp [val]),by omega,by omega,by simp [h6],by simp [h10],by simp [h11],by simp [h12],by simp [h13],by simp [h14],by simp,by simp [h20],by simp,by simp,by simp,by simp (disch:=omega) [hU],by simp (disch:=omega) [hO],rfl⟩) ?_
       clear h6 h10 h11 h12 h13 h14 h15 h20 hU hO hu1
       rintro N ⟨e,H,mm,nt⟩ ⟨i,u2,c,rfl,hi,w2,c0,c1,h6,h10,h11,h12,h13,h14,h15,h20,h26,h236,h237,hU,hO,rfl⟩
       simp only [] at h6 h10 h11 h12 h13 h14 h15 h20 h26 h236 h237 hU hO
       have hu2 : u2.length = J + n + 1:=w2.len.trans hul
       refine .q ?_ (by simp (disch:=first|omega|(simp only[ln];omega)) [h236,h237]; rfl)
       refine .sq fun K51 hK51=>?_
       refine .c (fun h238=>?_) (fun h238=>?_)
       ·try simp only[dc]at h238
        have hi' : i < n:=by omega
        have ws:=win_add w2 hi (by omega) dV c0 c1
        have gvi:=dV.gt (by omega) i
        have gui:=w2.dig.gt (by omega) (j + i)
        have x6 : TN (((j : Int) + (i : Int)).toNat) (j + i):=TN.i (by omega)
        refine .skip ?_
        refine hK51 _ ?_
        refine .sq fun K52 hK52=>?_
        refine .block ?_
        refine .q ?_ (by simp (disch:=first|omega|(simp only[ln];omega)) [h237]; rfl)
        refine .old fun hold=>?_
        refine .d 20 ?_
        refine .k 15 (fun fs54 hfs54=>?_) (by simp (disch:=first|omega|(simp only[ln];omega)) [runDf.eq_def,runF1,runF2,stepF.eq_def,updo.eq_def,hupo.eq_def,opSto1.eq_def,List.take_succ_cons,List.take_zero,idx_WdD (P:=Tryz.prog) elT108 szT25,if_pos,h11,h12,h14,h26,hU,x6.e,hu2,lV,ld_ip agT25]; rfl)
        refine DP.ecall (FE.add64 nb169 (gt u2 (j + i)) (gt Vl i) c gui.1 gvi.1 c0 c1) rfl rfl rfl (by simp (disch:=first|omega|(simp only[ln];omega)) [idf_Wd',h11,h12,h14,h26,hU,x6.e,hu2,lV,ld_ip agT25]) (by simp (disch:=first|omega|(simp only[ln];omega)) [h11,h12,h14,h26,hU,x6.e,hu2,lV,ld_ip agT25]) (by simp) ?_
        simp only [updo]
        refine .k 2 (fun fs55 hfs55=>?_) (by simp (disch:=first|omega|(simp only[ln];omega)) [runDf.eq_def,runF1,runF2,stepF.eq_def,updo.eq_def,hupo.eq_def,opSto1.eq_def,List.take_succ_cons,List.take_zero,idx_WdD (P:=Tryz.prog) elT108 szT25,if_pos,h11,h12,h14,h26,hU,x6.e,hu2,lV,ld_ip agT25]; rfl)
        refine DP.runF1q (by simp (disch:=first|omega|(simp only[ln];omega)) [runDf.eq_def,runF1,runF2,stepF.eq_def,updo.eq_def,hupo.eq_def,opSto1.eq_def,idx_WdD (P:=Tryz.prog) elT108 szT25,if_pos,h11,h12,h14,h26,hU,x6.e,hu2,lV,ld_ip agT25]; rfl) fun fq56 hfq56=>?_
        replace hfq56 : fq56.q = []:=by rw [hfq56]; simp [qids,asksB,Op.operands,topId]
        simp only [updo]
        refine .k 1 (fun fs57 hfs57=>?_) (by simp (disch:=first|omega|(simp only[ln];omega)) [runDf.eq_def,runF1,runF2,stepF.eq_def,updo.eq_def,hupo.eq_def,opSto1.eq_def,List.take_succ_cons,List.take_zero,idx_WdD (P:=Tryz.prog) elT108 szT25,if_pos,h11,h12,h14,h26,hU,x6.e,hu2,lV,ld_ip agT25]; rfl)
        refine DQ.runG (m:=20) [18] (by simp only[ln,hfs54,hfs55,hfs57];omega) (by intro k f hk hex; simp only [List.mem_cons,List.not_mem_nil,or_false] at hex; rcases hex with rfl <;> (simp [List.getElem?_append,hfs54,hfs55,hfs57] at hk; subst hk; assumption)) _ _ _ (fun id q h j hj=>by have:=hold id q h; simp at hj; omega) (by kernel_rfl) rfl (by simp (disch:=first|omega|(simp only[ln];omega)) [runDf.eq_def,runF1,runF2,stepF.eq_def,updo.eq_def,hupo.eq_def,opSto1.eq_def,idx_WdD (P:=Tryz.prog) elT108 szT25,if_pos,h11,h12,h14,h26,hU,x6.e,hu2,lV,ld_ip agT25]; rfl) ?_
        refine hK52 _ ?_
        refine .r ?_ (by simp (disch:=first|omega|(simp only[ln];omega)) [h237]; rfl)
        refine ⟨n - (i + 1),by omega,i + 1,u2.set (j + i) ((gt u2 (j + i) + gt Vl i + c) % 18446744073709551616),(gt u2 (j + i) + gt Vl i + c) / 18446744073709551616,rfl,by omega,ws.2.2,ws.1,ws.2.1,by simp [h6],by simp [h10],by simp [h11],by simp [h12],by simp [h13],by simp [h14],by simp [h15],by simp [h20],by simp,by simp [h236],by simp (disch:=omega) [h237],by simp (disch:=omega) [hU],by simp (disch:=omega) [hO],rfl⟩
       ·try simp only[dc]at h238
        have hin : i = n:=by omega
        rw [hin,val_take_all (by omega),vV] at w2
        have wl:=win_add_last w2 (by omega) c0 c1
        have gun:=w2.dig.gt (by omega) (j + n)
        have wl0:=wl.1
        have wl1:=wl.2.1
        refine .exit ?_
        refine hK48 _ ?_
        refine .sq fun K58 hK58=>?_
        refine .region ?_
        refine .k 11 ?_ (by simp (disch:=first|omega|(simp only[ln];omega)) [List.take_succ_cons,List.take_zero,idx_WdD (P:=Tryz.prog) elT108 szT25,if_pos,h6,h12,h14,h26,hU,x7.e,hu2,ld_ip agT25]; rfl)
        refine .en (FE.add64 nb169 (gt u2 (j + n)) 0 c gun.1 (by omega) c0 c1) ?_ (ha:=by simp (disch:=first|omega|(simp only[ln];omega)) [idf_Wd',idx_WdD (P:=Tryz.prog) elT108 szT25,if_pos,h6,h12,h14,h26,hU,x7.e,hu2,ld_ip agT25])
        refine .e ?_ (by simp (disch:=first|omega|(simp only[ln];omega)) [idx_WdD (P:=Tryz.prog) elT108 szT25,if_pos,h6,h12,h14,h26,hU,x7.e,hu2,ld_ip agT25]; rfl)
        refine hK58 _ ?_
        refine .r ?_ (by simp (disch:=first|omega|(simp only[ln];omega)) [h20]; rfl)
        refine ⟨(q - 1).toNat,by omega,q - 1,u2.set (j + n) ((gt u2 (j + n) + c) % 18446744073709551616),1 - (gt u2 (j + n) + c) / 18446744073709551616,rfl,wl.2.2.cast (ab_cast _ _ _ _),by rw [show q - 1 + 1 = q by omega]; exact hneg,by omega,by omega,by omega,by simp [h6],by simp [h10],by simp [h11],by simp [h12],by simp [h13],by simp [h14],by simp [h15],by simp,by simp (disch:=omega) [hU],by simp (disch:=omega) [hO],rfl⟩
      ·try simp only[dc]at h233
       have hb0 : br = 0:=by simp at h233; omega
       subst hb0
       rw [Int.mul_zero,Int.add_zero] at w
       refine .exit ?_
       refine hK43 _ ?_
       refine .r ?_ (by simp (disch:=first|omega|(simp only[ln];omega)) [idx_WdD (P:=Tryz.prog) elT108 szT25,if_pos,h13,h14,h15,hO,hol]; rfl)
       refine hK28 _ ?_
       refine .r ?_ (by simp (disch:=first|omega|(simp only[ln];omega)) [h14]; rfl)
       refine ⟨j,by omega,j,u1,out.set j q,rfl,by omega,hKn.step (n:=n) w q0 qB qlt (by omega),w.len.trans hul,by simp [hol],by simp [h6],by simp [h10],by simp [h11],by simp [h12],by simp [h13],by simp [h14],by simp (disch:=omega) [hU],by simp (disch:=omega) [hO],rfl⟩
    refine .sq fun K59 hK59=>?_
    refine .df 12 ?_ (by simp (disch:=first|omega|(simp only[ln];omega)) [runDf.eq_def,runF1,runF2,stepF.eq_def,updo.eq_def,hupo.eq_def,opSto1.eq_def,idx_WdD (P:=Tryz.prog) elT108 szT25,if_pos,h6,h11,h12,h14,hU,x1.e,x4.e,lV,hul,ld_ip agT25]; rfl)
    refine hK59 _ ?_
    refine .c (fun h109=>?_) (fun h109=>?_)
    ·try simp only[dc]at h109
     have hQ0:=Qh.start hPm hw tg g1.1 h109 gv1.2 g2.1 g2.2 g3.2 gv2.1
     refine .q ?_
     refine .sq fun K61 hK61=>?_
     refine .d 22 ?_
     refine .k 18 (fun fs62 hfs62=>?_) (by simp (disch:=first|omega|(simp only[ln];omega)) [runDf.eq_def,runF1,runF2,stepF.eq_def,updo.eq_def,hupo.eq_def,opSto1.eq_def,List.take_succ_cons,List.take_zero,idx_WdD (P:=Tryz.prog) elT108 szT25,if_pos,h6,h11,h12,h14,hU,x1.e,x2.e,x4.e,lV,hul,ld_ip agT25]; rfl)
     refine .f (div64_fc (hi:=gt u (j + m + 2)) (lo:=gt u (j + m + 1)) (y0:=gt Vl (m + 1)) g1.1 h109 g2.1 g2.2 gv1.2) hb278 ?_ (ha:=by simp (disch:=first|omega|(simp only[ln];omega)) [idf_Wd',idx_WdD (P:=Tryz.prog) elT108 szT25,if_pos,h6,h11,h12,h14,hU,x1.e,x2.e,x4.e,lV,hul,ld_ip agT25])
     refine .k 3 (fun fs63 hfs63=>?_) (by simp (disch:=first|omega|(simp only[ln];omega)) [runDf.eq_def,runF1,runF2,stepF.eq_def,updo.eq_def,hupo.eq_def,opSto1.eq_def,List.take_succ_cons,List.take_zero,idx_WdD (P:=Tryz.prog) elT108 szT25,if_pos,h6,h11,h12,h14,hU,x1.e,x2.e,x4.e,lV,hul,ld_ip agT25]; rfl)
     refine .r 22 (by simp only[ln,hfs62,hfs63];omega) ?_ (by simp (disch:=first|omega|(simp only[ln];omega)) [runDf.eq_def,runF1,runF2,stepF.eq_def,updo.eq_def,hupo.eq_def,opSto1.eq_def,idx_WdD (P:=Tryz.prog) elT108 szT25,if_pos,h6,h11,h12,h14,hU,x1.e,x2.e,x4.e,lV,hul,ld_ip agT25]; rfl)
     refine hK61 _ ?_
     refine .block ?_
     refine .loop (fun N s=>∃ q r : Int,N = q.toNat ∧ Qh (val 18446744073709551616 (u.drop j)) ((d : Int) * 2 ^ k) (gt u (j + m + 2)) (gt u (j + m + 1)) (gt Vl (m + 1)) q r ∧ s.env 6 = .int .i64 (n : Int) ∧ s.env 10 = .int .i64 (k : Int) ∧ s.env 11 = Wd .u64 Vl ∧ s.env 12 = .osl iu 0 (J + n + 1) ∧ s.env 13 = .osl io 0 (J + 1) ∧ s.env 14 = .int .i64 (j : Int) ∧ s.env 15 = .int .u64 q ∧ s.env 16 = .int .u64 r ∧ s.heap iu = some (1,wd .u64 u) ∧ s.heap io = some (1,wd .u64 out) ∧ s.nt = 326) (((gt u (j + m + 2) * 18446744073709551616 + gt u (j + m + 1)) / gt Vl (m + 1)).toNat) (⟨_,_,rfl,hQ0,by simp [h6],by simp [h10],by simp [h11],by simp [h12],by simp [h13],by simp [h14],by simp,by simp,by simp (disch:=omega) [hU],by simp (disch:=omega) [hO],rfl⟩) ?_
     clear h6 h10 h11 h12 h13 h14 hU hO
     rintro N ⟨e,H,mm,nt⟩ ⟨q,r,rfl,hQ,h6,h10,h11,h12,h13,h14,h15,h16,hU,hO,rfl⟩
     simp only [] at h6 h10 h11 h12 h13 h14 h15 h16 hU hO
     have hq0:=hQ.q0
     have hqB:=hQ.qB
     have hr0:=hQ.r0
     have hrB:=hQ.rB
     have m0 : 0 ≤ q * gt Vl m:=Int.mul_nonneg hq0 gv2.1
     refine .block ?_
     refine .sq fun K64 hK64=>?_
     refine .region ?_
     refine .kf 6 (mul64_fc q (gt Vl m) hq0 hqB gv2.1 gv2.2) hb168 ?_ (by simp (disch:=first|omega|(simp only[ln];omega)) [List.take_succ_cons,List.take_zero,idx_WdD (P:=Tryz.prog) elT108 szT25,if_pos,h6,h11,h15,x5.e,lV,ld_ip agT25]; rfl) (ha:=by simp (disch:=first|omega|(simp only[ln];omega)) [idf_Wd',idx_WdD (P:=Tryz.prog) elT108 szT25,if_pos,h6,h11,h15,x5.e,lV,ld_ip agT25])
     refine .e ?_ (by simp (disch:=first|omega|(simp only[ln];omega)) [idx_WdD (P:=Tryz.prog) elT108 szT25,if_pos,h6,h11,h15,x5.e,lV,ld_ip agT25]; rfl)
     refine hK64 _ ?_
     refine .sq fun K65 hK65=>?_
     refine .sq fun K66 hK66=>?_
     by_cases hA : q * gt Vl m / 18446744073709551616 < r
     ·have c1 : decide (q * gt Vl m / 18446744073709551616 < r) = true:=by simp; omega
      refine .r ?_ (by simp (disch:=first|omega|(simp only[ln];omega)) [idx_WdD (P:=Tryz.prog) elT108 szT25,if_pos,h16,c1]; rfl)
      refine hK66 _ ?_
      refine .c (fun h160=>?_) (fun h160=>?_)
      ·try simp only[dc]at h160
       refine .exit ?_
       refine J30 _ ?_
       exact ⟨q,hq0,hqB,hQ.lt,by simp [h6],by simp [h10],by simp [h11],by simp [h12],by simp [h13],by simp [h14],by simp [h15],by simp (disch:=omega) [hU],by simp (disch:=omega) [hO],rfl⟩
      ·simp at h160
     ·have c1 : decide (q * gt Vl m / 18446744073709551616 < r) = false:=by simp; omega
      by_cases hB : q * gt Vl m / 18446744073709551616 = r
      ·have c2 : (q * gt Vl m / 18446744073709551616 == r) = true:=by simp [hB]
       refine .r ?_ (by simp (disch:=first|omega|(simp only[ln];omega)) [idx_WdD (P:=Tryz.prog) elT108 szT25,if_pos,h6,h12,h14,h16,hU,x3.e,hul,c1,c2,ld_ip agT25]; rfl)
       refine hK66 _ ?_
       refine .c (fun h160=>?_) (fun h160=>?_)
       ·try simp only[dc]at h160
        refine .exit ?_
        refine J30 _ ?_
        exact ⟨q,hq0,hqB,hQ.lt,by simp [h6],by simp [h10],by simp [h11],by simp [h12],by simp [h13],by simp [h14],by simp [h15],by simp (disch:=omega) [hU],by simp (disch:=omega) [hO],rfl⟩
       ·try simp only[dc]at h160
        refine .skip ?_
        refine hK65 _ ?_
        obtain ⟨s1,s2,s3⟩:=hQ.step hPm hw tg g3.1 (by omega)
        refine .q ?_ (by simp (disch:=first|omega|(simp only[ln];omega)) [h15]; rfl)
        refine .q ?_
        refine .sq fun K69 hK69=>?_
        refine .region ?_
        refine .k 6 ?_ (by simp (disch:=first|omega|(simp only[ln];omega)) [List.take_succ_cons,List.take_zero,idx_WdD (P:=Tryz.prog) elT108 szT25,if_pos,h6,h11,h16,x4.e,lV,ld_ip agT25]; rfl)
        refine .en (FE.add64 nb169 r (gt Vl (m + 1)) 0 hQ.r0 gv1.1 (by omega) (by omega)) ?_ (ha:=by simp (disch:=first|omega|(simp only[ln];omega)) [idf_Wd',idx_WdD (P:=Tryz.prog) elT108 szT25,if_pos,h6,h11,h16,x4.e,lV,ld_ip agT25])
        refine .e ?_ (by simp (disch:=first|omega|(simp only[ln];omega)) [idx_WdD (P:=Tryz.prog) elT108 szT25,if_pos,h6,h11,h16,x4.e,lV,ld_ip agT25]; rfl)
        refine hK69 _ ?_
        refine .q ?_
        refine .c (fun h174=>?_) (fun h174=>?_)
        ·try simp only[dc]at h174
         refine .exit ?_
         refine J30 _ ?_
         exact ⟨q - 1,by omega,by omega,s2,by simp [h6],by simp [h10],by simp [h11],by simp [h12],by simp [h13],by simp [h14],by simp [h15],by simp (disch:=omega) [hU],by simp (disch:=omega) [hO],rfl⟩
        ·try simp only[dc]at h174
         have hlt : r + gt Vl (m + 1) < 18446744073709551616:=by simp at h174; omega
         refine .skip ?_
         refine ⟨(q - 1).toNat,by omega,q - 1,r + gt Vl (m + 1),rfl,⟨s3,by omega,hlt,by omega,by omega,s2⟩,by simp [h6],by simp [h10],by simp [h11],by simp [h12],by simp [h13],by simp [h14],by simp,by simp [Int.emod_eq_of_lt (show 0 ≤ r + gt Vl (m + 1) by omega) hlt],by simp (disch:=omega) [hU],by simp (disch:=omega) [hO],rfl⟩
      ·have c2 : (q * gt Vl m / 18446744073709551616 == r) = false:=by simp [hB]
       refine .r ?_ (by simp (disch:=first|omega|(simp only[ln];omega)) [idx_WdD (P:=Tryz.prog) elT108 szT25,if_pos,h16,c1,c2]; rfl)
       refine hK66 _ ?_
       refine .c (fun h160=>?_) (fun h160=>?_)
       ·simp at h160
       ·try simp only[dc]at h160
        refine .skip ?_
        refine hK65 _ ?_
        obtain ⟨s1,s2,s3⟩:=hQ.step hPm hw tg g3.1 (by omega)
        refine .q ?_ (by simp (disch:=first|omega|(simp only[ln];omega)) [h15]; rfl)
        refine .q ?_
        refine .sq fun K73 hK73=>?_
        refine .region ?_
        refine .k 6 ?_ (by simp (disch:=first|omega|(simp only[ln];omega)) [List.take_succ_cons,List.take_zero,idx_WdD (P:=Tryz.prog) elT108 szT25,if_pos,h6,h11,h16,x4.e,lV,ld_ip agT25]; rfl)
        refine .en (FE.add64 nb169 r (gt Vl (m + 1)) 0 hQ.r0 gv1.1 (by omega) (by omega)) ?_ (ha:=by simp (disch:=first|omega|(simp only[ln];omega)) [idf_Wd',idx_WdD (P:=Tryz.prog) elT108 szT25,if_pos,h6,h11,h16,x4.e,lV,ld_ip agT25])
        refine .e ?_ (by simp (disch:=first|omega|(simp only[ln];omega)) [idx_WdD (P:=Tryz.prog) elT108 szT25,if_pos,h6,h11,h16,x4.e,lV,ld_ip agT25]; rfl)
        refine hK73 _ ?_
        refine .q ?_
        refine .c (fun h174=>?_) (fun h174=>?_)
        ·try simp only[dc]at h174
         refine .exit ?_
         refine J30 _ ?_
         exact ⟨q - 1,by omega,by omega,s2,by simp [h6],by simp [h10],by simp [h11],by simp [h12],by simp [h13],by simp [h14],by simp [h15],by simp (disch:=omega) [hU],by simp (disch:=omega) [hO],rfl⟩
        ·try simp only[dc]at h174
         have hlt : r + gt Vl (m + 1) < 18446744073709551616:=by simp at h174; omega
         refine .skip ?_
         refine ⟨(q - 1).toNat,by omega,q - 1,r + gt Vl (m + 1),rfl,⟨s3,by omega,hlt,by omega,by omega,s2⟩,by simp [h6],by simp [h10],by simp [h11],by simp [h12],by simp [h13],by simp [h14],by simp,by simp [Int.emod_eq_of_lt (show 0 ≤ r + gt Vl (m + 1) by omega) hlt],by simp (disch:=omega) [hU],by simp (disch:=omega) [hO],rfl⟩
    ·try simp only[dc]at h109
     refine .skip ?_
     refine J30 _ ?_
     exact ⟨18446744073709551615,by omega,by omega,by omega,by simp [h6],by simp [h10],by simp [h11],by simp [h12],by simp [h13],by simp [h14],by simp,by simp (disch:=omega) [hU],by simp (disch:=omega) [hO],rfl⟩
   ·try simp only[dc]at h95
    obtain rfl : N = 0:=by omega
    obtain ⟨f1,f2⟩:=dw_fin hp0 hKn
    have hltn : val 18446744073709551616 u < (18446744073709551616 : Int) ^ n:=by
      have:=hKn.hi
      rw [List.drop_zero] at this
      rw [hn]; omega
    obtain ⟨M,hM⟩ : ∃ M,M = (trimW (u.take n)).length:=⟨_,rfl⟩
    have hMn : M ≤ n:=by
      have:=trimW_length (u.take n)
      rw [List.length_take] at this; omega
    refine .exit ?_
    refine hK24 _ ?_
    refine .sq fun K75 hK75=>?_
    refine .region ?_
    refine .k 3 ?_ (by simp (disch:=first|omega|(simp only[ln];omega)) [List.take_succ_cons,List.take_zero,if_pos,h6,h12,hU,hul]; rfl)
    refine .a (trim_ac u iu n _ _ (by simp [hU]) (by omega) (by omega)) hb240 ?_ (ha:=by simp (disch:=first|omega|(simp only[ln];omega)) [idf_Wd',if_pos,h6,h12,hU,hul])
    rintro _ H5 nx5 ⟨rfl,rfl,hnx5⟩
    rw [← hM]
    refine .e ?_ (by simp (disch:=first|omega|(simp only[ln];omega)) [if_pos,h6,h12,hU,hul]; rfl)
    refine hK75 _ ?_
    refine .sq fun K76 hK76=>?_
    refine .q ?_ (by simp (disch:=first|omega|(simp only[ln];omega)) [len_Wd (P:=Tryz.prog) #[108] rfl elT108,hU]; rfl)
    refine .block ?_
    refine .loop (fun N s=>∃ (i : Nat) (o : List Int),N = M - i ∧ i ≤ M ∧ o.length = J + n + 1 ∧ Dig 18446744073709551616 o ∧ (∀ x,x < i → gt o x = gt (trimW (u.take n)) x / 2 ^ k + gt (trimW (u.take n)) (x + 1) % 2 ^ k * 2 ^ (64 - k)) ∧ (∀ x,i ≤ x → x < M → gt o x = gt (trimW (u.take n)) x) ∧ s.env 10 = .int .i64 (k : Int) ∧ s.env 13 = .osl io 0 (J + 1) ∧ s.env 28 = .osl iu 0 M ∧ s.env 289 = .int .i64 (M : Int) ∧ s.env 290 = .int .i64 (i : Int) ∧ s.heap iu = some (1,wd .u64 o) ∧ s.heap io = some (1,wd .u64 out) ∧ s.nt = 326) (M) (⟨0,u,by omega,by omega,hul,hKn.dig,by intro x hx; omega,by intro x _ hx; rw [gt_trimW x (by omega),gt_take (by omega)],by simp [h10],by simp [h13],by simp,by simp,by simp,by simp (disch:=omega) [hU],by simp (disch:=omega) [hO],rfl⟩) ?_
    clear h6 h10 h11 h12 h13 h14 hU hO
    rintro N ⟨e,H,mm,nt⟩ ⟨i,o,rfl,hi,hol2,dO,hs1,hs2,h10,h13,h28,h289,h290,hU,hO,rfl⟩
    simp only [] at h10 h13 h28 h289 h290 hU hO
    refine .q ?_ (by simp (disch:=first|omega|(simp only[ln];omega)) [h289,h290]; rfl)
    refine .sq fun K79 hK79=>?_
    refine .c (fun h291=>?_) (fun h291=>?_)
    ·try simp only[dc]at h291
     have hi' : i < M:=by omega
     have dT:=(hKn.dig.take n).trim
     have gi:=dT.gt (by omega) i
     have gi2:=dT.gt (by omega) (i + 1)
     have od:=or_down (y:=gt (trimW (u.take n)) (i + 1)) hk gi.1 gi.2
     have hoi:=hs2 i (Nat.le_refl _) hi'
     have i1 : TN (((i : Int) + 1).toNat) (i + 1):=TN.i (by omega)
     refine .skip ?_
     refine hK79 _ ?_
     refine .sq fun K80 hK80=>?_
     refine .block ?_
     refine .q ?_ (by simp (disch:=first|omega|(simp only[ln];omega)) [h290]; rfl)
     refine .q ?_
     refine .sq fun K83 hK83=>?_
     refine .sq fun K84 hK84=>?_
     by_cases hiM : i + 1 < M
     ·have c1 : decide ((i : Int) + 1 < (M : Int)) = true:=by simp; omega
      have c2 : True:=trivial
      refine .r ?_ (by simp (disch:=first|omega|(simp only[ln];omega)) [len_Wd (P:=Tryz.prog) #[108] rfl elT108,h10,h28,hU,c1]; rfl)
      refine hK84 _ ?_
      refine .c (fun h301=>?_) (fun h301=>?_)
      ·try simp only[dc]at h301
       have hk0 : 0 < k:=by omega
       have ho2:=hs2 (i + 1) (by omega) hiM
       have wl : IntKind.u64.wrap (gt (trimW (u.take n)) (i + 1) * 2 ^ (64 - k)) = gt (trimW (u.take n)) (i + 1) % 2 ^ k * 2 ^ (64 - k):=by rw [wrap_u64m,shl_low (by omega)]
       have w9 : TN (((64 : Int) - (k : Int)).toNat) (64 - k):=TN.i (by omega)
       have od1:=od.1
       refine .r ?_ (by simp (disch:=first|omega|(simp only[ln];omega)) [idx_WdD (P:=Tryz.prog) elT108 szT25,if_pos,h10,h28,hU,hol2,i1.e,ho2,w9.e,hmk2.e,wl,IntKind.bits,ld_ip agT25]; rfl)
       refine hK83 _ ?_
       refine .r ?_ (by simp (disch:=first|omega|(simp only[ln];omega)) [idx_WdD (P:=Tryz.prog) elT108 szT25,if_pos,h10,h28,hU,hol2,hoi,hmk.e,IntKind.bits,fdk,od1,ld_ip agT25]; rfl)
       refine hK80 _ ?_
       refine .r ?_ (by simp (disch:=first|omega|(simp only[ln];omega)) [h290]; rfl)
       refine ⟨M - (i + 1),by omega,i + 1,o.set i (gt (trimW (u.take n)) i / 2 ^ k + gt (trimW (u.take n)) (i + 1) % 2 ^ k * 2 ^ (64 - k)),rfl,by omega,by simp [hol2],dO.set _ od.2.1 od.2.2,?_,?_,by simp [h10],by simp [h13],by simp [h28],by simp [h289],by simp (disch:=omega) [h290],by simp,by simp (disch:=omega) [hO],rfl⟩
       · intro x hx
         by_cases hxi : x = i
         · subst hxi; rw [gt_set (by omega)]
         · rw [gt_set_ne (by omega)]; exact hs1 x (by omega)
       · intro x hx hx2
         rw [gt_set_ne (by omega)]; exact hs2 x (by omega) hx2
      ·try simp only[dc]at h301
       have hk0 : k = 0:=by omega
       have hzz : gt (trimW (u.take n)) (i + 1) % 2 ^ k * 2 ^ (64 - k) = 0:=by subst hk0; simp
       have od1:=od.1
       rw [hzz,Int.add_zero] at od1
       refine .skip ?_
       refine hK83 _ ?_
       refine .r ?_ (by simp (disch:=first|omega|(simp only[ln];omega)) [idx_WdD (P:=Tryz.prog) elT108 szT25,if_pos,h10,h28,hU,hol2,hoi,hmk.e,IntKind.bits,fdk,od1,ld_ip agT25]; rfl)
       refine hK80 _ ?_
       refine .r ?_ (by simp (disch:=first|omega|(simp only[ln];omega)) [h290]; rfl)
       refine ⟨M - (i + 1),by omega,i + 1,o.set i (gt (trimW (u.take n)) i / 2 ^ k + gt (trimW (u.take n)) (i + 1) % 2 ^ k * 2 ^ (64 - k)),rfl,by omega,by simp [hol2],dO.set _ od.2.1 od.2.2,?_,?_,by simp [h10],by simp [h13],by simp [h28],by simp [h289],by simp (disch:=omega) [h290],by simp [hzz],by simp (disch:=omega) [hO],rfl⟩
       · intro x hx
         by_cases hxi : x = i
         · subst hxi; rw [gt_set (by omega)]
         · rw [gt_set_ne (by omega)]; exact hs1 x (by omega)
       · intro x hx hx2
         rw [gt_set_ne (by omega)]; exact hs2 x (by omega) hx2
     ·have c1 : decide ((i : Int) + 1 < (M : Int)) = false:=by simp; omega
      have c2 : True:=trivial
      refine .r ?_ (by simp (disch:=first|omega|(simp only[ln];omega)) [len_Wd (P:=Tryz.prog) #[108] rfl elT108,h28,hU,c1]; rfl)
      refine hK84 _ ?_
      refine .c (fun h301=>?_) (fun h301=>?_)
      ·simp at h301
      ·try simp only[dc]at h301
       have hzz : gt (trimW (u.take n)) (i + 1) % 2 ^ k * 2 ^ (64 - k) = 0:=by rw [gt_ge (by omega),Int.zero_emod,Int.zero_mul]
       have od1:=od.1
       rw [hzz,Int.add_zero] at od1
       refine .skip ?_
       refine hK83 _ ?_
       refine .r ?_ (by simp (disch:=first|omega|(simp only[ln];omega)) [idx_WdD (P:=Tryz.prog) elT108 szT25,if_pos,h10,h28,hU,hol2,hoi,hmk.e,IntKind.bits,fdk,od1,ld_ip agT25]; rfl)
       refine hK80 _ ?_
       refine .r ?_ (by simp (disch:=first|omega|(simp only[ln];omega)) [h290]; rfl)
       refine ⟨M - (i + 1),by omega,i + 1,o.set i (gt (trimW (u.take n)) i / 2 ^ k + gt (trimW (u.take n)) (i + 1) % 2 ^ k * 2 ^ (64 - k)),rfl,by omega,by simp [hol2],dO.set _ od.2.1 od.2.2,?_,?_,by simp [h10],by simp [h13],by simp [h28],by simp [h289],by simp (disch:=omega) [h290],by simp [hzz],by simp (disch:=omega) [hO],rfl⟩
       · intro x hx
         by_cases hxi : x = i
         · subst hxi; rw [gt_set (by omega)]
         · rw [gt_set_ne (by omega)]; exact hs1 x (by omega)
       · intro x hx hx2
         rw [gt_set_ne (by omega)]; exact hs2 x (by omega) hx2
    ·try simp only[dc]at h291
     have hin : i = M:=by omega
     rw [hin] at hs1
     have hrd:=rest_down (a:=a) (d:=d) (k:=k) (n:=n) hk hKn.dig (by omega) f2 hltn dO (by omega) (by rw [← hM]; exact hs1)
     rw [← hM] at hrd
     have t1 : trimW out = mag ((a / d : Nat) : Int):=by rw [mag_of hKn.dout,f1]
     refine .exit ?_
     refine hK76 _ ?_
     refine .sq fun K85 hK85=>?_
     refine .region ?_
     refine .k 1 ?_ (by simp (disch:=first|omega|(simp only[ln];omega)) [List.take_succ_cons,List.take_zero,h13,h28]; rfl)
     refine AOPS.frz1 322 io 1 (wd .u64 out) (Wd .u64 out) (by simp (disch:=omega) [hO]) (by simp [h13,← hol]; first | exact fz_wd rfl | exact isl_take_wd (Nat.le_refl _)) ?_
     refine .f (trim_fc out (by omega)) hb240 ?_ (ha:=by simp (disch:=first|omega|(simp only[ln];omega)) [idf_Wd',h13,h28])
     refine .k 1 ?_ (by simp (disch:=first|omega|(simp only[ln];omega)) [List.take_succ_cons,List.take_zero,h13,h28]; rfl)
     refine AOPS.frz1 324 iu 1 (wd .u64 o) (Wd .u64 (o.take M)) (by simp (disch:=omega) [hU]) (by simp [h28]; exact fz_wdt (by omega)) ?_
     refine .f (trim_fc (o.take M) (by simp; omega)) hb240 ?_ (ha:=by simp (disch:=first|omega|(simp only[ln];omega)) [idf_Wd',h13,h28])
     refine .e ?_ (by simp (disch:=first|omega|(simp only[ln];omega)) [h13,h28]; rfl)
     refine hK85 _ ?_
     refine .ret ?_
     exact hK _ _ _ _ trivial ((Fin.mk (r:=.tup [Wd .u64 (trimW out),Wd .u64 (trimW (o.take M))]) (by simp [aRes,aResL,aRes1])).cast (by rw [t1,hrd.2]))

end Go.Proofs.YtaibemhdfhchfaaGreat

/- Walks: the greatest common divisor. -/
namespace Go.Proofs.YtaibemhdfhchfaaGreat
open Go Go.RowKit
set_option linter.unusedSimpArgs false
set_option linter.unusedVariables false
set_option maxRecDepth 100000
attribute [local simp] szT3 byT3 agT3 unT3 zoT3 szT4 byT4 agT4 unT4 zoT4 szT25 byT25 agT25 unT25 zoT25 szT108 byT108 agT108 elT108 unT108 zoT108 szT110 byT110 agT110 flT110 fdT110_0 fdT110_1 zoT110 szT273 byT273 agT273 elT273 unT273 zoT273

section
attribute [local simp] idf_numI cells_numI numI_fold
set_option maxHeartbeats 2000000 in
theorem gcd_fc {j : Nat} (zs : List Int) (hz : ∀ z ∈ zs,Bg j z) (hj : j ≤ 68719476736) (hl : zs.length ≤ 1099511627776) : FC Tryz.prog 165 [.isl (zs.map numC)] (numI ((gcdL zs : Nat) : Int)):=by
 refine .b Tryz.func165 37 (fun nx K hK=>?_) (hi:=by simp [idfL,idf,idfLL_iff,numC,idf_Wd'])
 refine .q ?_
 refine .q ?_
 refine .sq fun K3 hK3=>?_
 refine .q ?_
 refine .block ?_
 refine .loop (fun N s=>∃ (i : Nat) (X : AV),N = zs.length - i ∧ i ≤ zs.length ∧ (X = .nsl ∧ i = 0 ∨ X = Wd .u64 (mag ((gcdL (zs.take i) : Nat) : Int))) ∧ s.env 2 = .ptr nx 0 0 ∧ s.env 3 = .ptr (nx + 1) 0 0 ∧ s.env 11 = .isl (zs.map numC) ∧ s.env 12 = .int .i64 (zs.length : Int) ∧ s.env 13 = .int .i64 (i : Int) ∧ s.heap nx = some (2,[[.bool false,.nsl]]) ∧ s.heap (nx + 1) = some (2,[[.bool false,X]]) ∧ nx + 1 < s.nx ∧ s.nt = 37) (zs.length) (⟨0,.nsl,by omega,by omega,.inl ⟨rfl,rfl⟩,by simp,by simp,by simp,by simp,by simp,by simp,by simp,by simp,rfl⟩) ?_
 rintro N ⟨e,H,mm,nt⟩ ⟨i,X,rfl,hi,hX,h2,h3,h11,h12,h13,hA,hB,hm,rfl⟩
 simp only [] at h2 h3 h11 h12 h13 hA hB hm
 refine .q ?_ (by simp (disch:=first|omega|(simp only[ln];omega)) [h12,h13]; rfl)
 refine .sq fun K6 hK6=>?_
 refine .c (fun h14=>?_) (fun h14=>?_)
 ·try simp only[dc]at h14
  have hi' : i < zs.length:=by omega
  have hzi : zs[i]? = some (gt zs i):=gt_some hi'
  have hmem : gt zs i ∈ zs:=List.mem_of_getElem? hzi
  have bz:=hz _ hmem
  have bg:=gcdL_bg zs hz i
  have hmi : (zs.map numC)[i]? = some (numC (gt zs i)):=by rw [List.getElem?_map,hzi]; rfl
  refine .skip ?_
  refine hK6 _ ?_
  refine .sq fun K7 hK7=>?_
  refine .block ?_
  refine .q ?_ (by simp (disch:=first|omega|(simp only[ln];omega)) [if_pos,h11,h13,hmi,numC,hm]; rfl)
  refine .sq fun K9 hK9=>?_
  have hne : nx + 1 ≠ mm:=by omega
  have hne2 : mm ≠ nx + 1:=by omega
  refine .df 4 ?_ (by simp (disch:=first|omega|(simp only[ln];omega)) [runDf.eq_def,runF1,runF2,stepF.eq_def,updo.eq_def,hupo.eq_def,opSto1.eq_def,h3,hB,Nat.ne_of_lt hm,numC]; rfl)
  refine hK9 _ ?_
  refine .sq fun K10 hK10=>?_
  refine .block ?_
  refine AWP.weakE 6 (Wd .u64 (mag ((gcdL (zs.take i) : Nat) : Int))) (by
    rcases hX with ⟨rfl,h0⟩ | rfl
    · simp only [upd_ap]; intro w β b v hv
      have hv' : VR w β b .nsl v:=by simpa using hv
      have : mag ((gcdL (zs.take i) : Nat) : Int) = []:=by rw [h0]; exact mag_zero
      rw [this]; exact nsl_Wd .u64 hv'
    · intro w β b v hv; simpa [upd_ap] using hv) ?_
  refine .loop (fun N s=>∃ x y : Nat,N = y ∧ Nat.gcd x y = Nat.gcd (gcdL (zs.take i)) (gt zs i).natAbs ∧ Bg j x ∧ Bg j y ∧ s.env 2 = .ptr nx 0 0 ∧ s.env 3 = .ptr (nx + 1) 0 0 ∧ s.env 11 = .isl (zs.map numC) ∧ s.env 12 = .int .i64 (zs.length : Int) ∧ s.env 13 = .int .i64 (i : Int) ∧ s.env 6 = Wd .u64 (mag (x : Int)) ∧ s.env 7 = Wd .u64 (mag (y : Int)) ∧ s.heap nx = some (2,[[.bool false,.nsl]]) ∧ s.heap (nx + 1) = some (2,[[.bool false,X]]) ∧ nx + 1 < s.nx ∧ s.nt = 37) ((gt zs i).natAbs) (⟨gcdL (zs.take i),(gt zs i).natAbs,rfl,rfl,bg,bz.abs,by simp [h2],by simp [h3],by simp [h11],by simp [h12],by simp [h13],by simp,by simp [mag_abs],by simp (disch:=omega) [hA],by simp (disch:=omega) [hB],by simp; omega,rfl⟩) ?_
  clear h2 h3 h11 h12 h13 hA hB
  rintro N ⟨e,H,mm2,nt⟩ ⟨x,y,rfl,hg,bx,bY,h2,h3,h11,h12,h13,h6,h7,hA,hB,hm2,rfl⟩
  simp only [] at h2 h3 h11 h12 h13 h6 h7 hA hB hm2
  refine .sq fun K11 hK11=>?_
  refine .q ?_ (by simp (disch:=first|omega|(simp only[ln];omega)) [len_Wd (P:=Tryz.prog) #[108] rfl elT108,h7]; rfl)
  refine .c (fun h23=>?_) (fun h23=>?_)
  ·try simp only[dc]at h23
   have hy : N ≠ 0:=fun h=>by
     subst h
     simp [mag_zero] at h23
   refine .skip ?_
   refine hK11 _ ?_
   refine .block ?_
   refine .sq fun K13 hK13=>?_
   refine .region ?_
   refine .kf 2 (divWords_fc x N hy (Nat.le_trans bx.len hj) (Nat.le_trans bY.len hj)) hb238 ?_ (by simp (disch:=first|omega|(simp only[ln];omega)) [List.take_succ_cons,List.take_zero,h6,h7]; rfl) (ha:=by simp (disch:=first|omega|(simp only[ln];omega)) [idf_Wd',h6,h7])
   refine .e ?_ (by simp (disch:=first|omega|(simp only[ln];omega)) [h6,h7]; rfl)
   refine hK13 _ ?_
   refine .region ?_
   refine .kf 2 (clone_fc (mag ((x % N : Nat) : Int)) (by have:=(bY.mod x hy).len; omega)) hb239 ?_ (by simp (disch:=first|omega|(simp only[ln];omega)) [List.take_succ_cons,List.take_zero,h7]; rfl) (ha:=by simp (disch:=first|omega|(simp only[ln];omega)) [idf_Wd',h7])
   refine .e ?_ (by simp (disch:=first|omega|(simp only[ln];omega)) [h7]; rfl)
   refine ⟨x % N,Nat.mod_lt _ (by omega),N,x % N,rfl,by rw [← hg,Nat.gcd_comm N,← Nat.gcd_rec,Nat.gcd_comm],bY,bY.mod x (by omega),by simp [h2],by simp [h3],by simp [h11],by simp [h12],by simp [h13],by simp [h7],by simp,by simp [hA],by simp [hB],by simpa using hm2,rfl⟩
  ·try simp only[dc]at h23
   have hy : N = 0:=by
     have : (mag (N : Int)).length = 0:=by omega
     rw [mag_len0] at this; omega
   subst hy
   rw [Nat.gcd_zero_right] at hg
   rw [hg] at h6
   refine .exit ?_
   refine hK10 _ ?_
   refine .r ?_ (by simp (disch:=first|omega|(simp only[ln];omega)) [h3,h6,hB]; rfl)
   refine hK7 _ ?_
   refine .r ?_ (by simp (disch:=first|omega|(simp only[ln];omega)) [h13]; rfl)
   have hgz:=gcdL_succ zs hi'
   refine ⟨zs.length - (i + 1),by omega,i + 1,Wd .u64 (mag ((gcdL (zs.take (i + 1)) : Nat) : Int)),rfl,by omega,.inr rfl,by simp [h2],by simp [h3],by simp [h11],by simp [h12],by simp (disch:=omega) [h13],by simp (disch:=omega) [hA],by simp [hgz,← hg],by simpa using hm2,rfl⟩
 ·try simp only[dc]at h14
  have hin : i = zs.length:=by omega
  refine .exit ?_
  refine hK3 _ ?_
  refine .sq fun K14 hK14=>?_
  rcases hX with ⟨rfl,h0⟩ | rfl
  ·have hz0 : zs = []:=List.length_eq_zero_iff.mp (by omega)
   refine .r ?_ (by simp (disch:=first|omega|(simp only[ln];omega)) [h2,h3,hA,hB]; rfl)
   refine hK14 _ ?_
   refine .ret ?_
   exact hK _ _ _ _ trivial ((Fin.mk (r:=.agg [.bool false,.nsl]) (by simp [aRes,aResL,aRes1,h2])).weak (by rw [hz0]; exact fun _ _ _ _=>num0_weak))
  ·rw [hin,List.take_length] at hB
   refine .r ?_ (by simp (disch:=first|omega|(simp only[ln];omega)) [h2,h3,hA,hB]; rfl)
   refine hK14 _ ?_
   refine .ret ?_
   exact hK _ _ _ _ trivial ((Fin.mk (r:=.agg [.bool false,Wd .u64 (mag ((gcdL zs : Nat) : Int))]) (by simp [aRes,aResL,aRes1,h2])).cast (by unfold numI; rw [decide_eq_false (by omega)]))
end

end Go.Proofs.YtaibemhdfhchfaaGreat

/- Walks: are points right?. -/
namespace Go.Proofs.YtaibemhdfhchfaaGreat
open Go Go.RowKit
set_option linter.unusedSimpArgs false
set_option linter.unusedVariables false
set_option maxRecDepth 100000
attribute [local simp] szT2 byT2 agT2 unT2 zoT2 szT4 byT4 agT4 unT4 zoT4 szT25 byT25 agT25 unT25 zoT25 szT27 byT27 agT27 flT27 fdT27_0 fdT27_1 fdT27_2 fdT27_3 zoT27 szT29 byT29 agT29 flT29 fdT29_0 fdT29_1 fdT29_2 zoT29 szT110 byT110 agT110 flT110 fdT110_0 fdT110_1 zoT110 szT112 byT112 agT112 flT112 fdT112_0 fdT112_1 fdT112_2 zoT112 szT125 byT125 agT125 elT125 unT125 zoT125 szT127 byT127 agT127 flT127 fdT127_0 fdT127_1 zoT127 szT129 byT129 agT129 flT129 fdT129_0 fdT129_1 fdT129_2 zoT129 szT271 byT271 agT271 unT271 zoT271

section
attribute [local simp] idf_numS cells_numS numS_fold idf_numI cells_numI numI_fold Pt.av Pt.cells wdI
set_option maxHeartbeats 1000000 in
theorem spot_fc (p : Pt) (hp : p.ok) : FC Tryz.prog 77 [p.av] (spA p.x.v p.y.v p.w.v):=by
 
 refine .b Tryz.func77 13 (fun nx K hK=>?_) (hr:=by simp [idfL,idf,spA,spC,idf_Wd'])
 refine .q ?_
 refine .sq fun K2 hK2=>?_
 refine .d 10 ?_
 refine .k 2 (fun fs3 hfs3=>?_)
 refine .f (wideNum_fc p.x.a p.x.b p.x.c p.x.d hp.1.1 hp.1.2.1 hp.1.2.2.1 hp.1.2.2.2) hb166 ?_
 refine .k 2 (fun fs4 hfs4=>?_)
 refine .f (wideNum_fc p.y.a p.y.b p.y.c p.y.d hp.2.1.1 hp.2.1.2.1 hp.2.1.2.2.1 hp.2.1.2.2.2) hb166 ?_
 refine .k 2 (fun fs5 hfs5=>?_)
 refine .f (wideNum_fc p.w.a p.w.b p.w.c p.w.d hp.2.2.1 hp.2.2.2.1 hp.2.2.2.2.1 hp.2.2.2.2.2) hb166 ?_
 refine .k 1 (fun fs6 hfs6=>?_)
 refine .r 10 (by simp only[ln,hfs3,hfs4,hfs5,hfs6];omega) ?_
 refine hK2 _ ?_
 refine .ret ?_
 exact hK _ _ _ _ trivial ((Fin.m).cast (by rfl))
end
section
attribute [local simp] idf_numS cells_numS numS_fold idf_numI cells_numI numI_fold l3A l3C
set_option maxHeartbeats 1000000 in
theorem l3Small_fc {k : Nat} {x y w : Int} (bx : Bg k x) (bY : Bg k y) (bw : Bg k w) (hk : k ≤ 68719476736) : FC Tryz.prog 177 [l3A x y w] (.bool (sm x y w)):=by
 refine .b Tryz.func177 22 (fun nx K hK=>?_)
 refine .q ?_
 refine .sq fun K2 hK2=>?_
 by_cases hx : bitLen x.natAbs ≤ 80
 ·have c1 : decide ((bitLen x.natAbs : Int) ≤ 80) = true:=by simp; omega
  by_cases hy : bitLen y.natAbs ≤ 80
  ·have c2 : decide ((bitLen y.natAbs : Int) ≤ 80) = true:=by simp; omega
   refine .region ?_
   refine .kf 3 (l1Bits_fc bx hk) hb244 ?_ (by simp (disch:=first|omega|(simp only[ln];omega)) [List.take_succ_cons,List.take_zero,c1,c2]; rfl) (ha:=by simp (disch:=first|omega|(simp only[ln];omega)) [idf_Wd',c1,c2])
   refine .kf 5 (l1Bits_fc bY hk) hb244 ?_ (by simp (disch:=first|omega|(simp only[ln];omega)) [List.take_succ_cons,List.take_zero,c1,c2]; rfl) (ha:=by simp (disch:=first|omega|(simp only[ln];omega)) [idf_Wd',c1,c2])
   refine .kf 6 (l1Bits_fc bw hk) hb244 ?_ (by simp (disch:=first|omega|(simp only[ln];omega)) [List.take_succ_cons,List.take_zero,c1,c2]; rfl) (ha:=by simp (disch:=first|omega|(simp only[ln];omega)) [idf_Wd',c1,c2])
   refine .e ?_ (by simp (disch:=first|omega|(simp only[ln];omega)) [c1,c2]; rfl)
   refine hK2 _ ?_
   refine .ret ?_
   exact hK _ _ _ _ trivial ((Fin.m).cast (by simp [sm,hx,hy]; try omega))
  ·have c2 : decide ((bitLen y.natAbs : Int) ≤ 80) = false:=by simp; omega
   refine .region ?_
   refine .kf 3 (l1Bits_fc bx hk) hb244 ?_ (by simp (disch:=first|omega|(simp only[ln];omega)) [List.take_succ_cons,List.take_zero,c1,c2]; rfl) (ha:=by simp (disch:=first|omega|(simp only[ln];omega)) [idf_Wd',c1,c2])
   refine .kf 5 (l1Bits_fc bY hk) hb244 ?_ (by simp (disch:=first|omega|(simp only[ln];omega)) [List.take_succ_cons,List.take_zero,c1,c2]; rfl) (ha:=by simp (disch:=first|omega|(simp only[ln];omega)) [idf_Wd',c1,c2])
   refine .e ?_ (by simp (disch:=first|omega|(simp only[ln];omega)) [c1,c2]; rfl)
   refine hK2 _ ?_
   refine .ret ?_
   exact hK _ _ _ _ trivial ((Fin.m).cast (by simp [sm,hx,hy]))
 ·have c1 : decide ((bitLen x.natAbs : Int) ≤ 80) = false:=by simp; omega
  refine .region ?_
  refine .kf 3 (l1Bits_fc bx hk) hb244 ?_ (by simp (disch:=first|omega|(simp only[ln];omega)) [List.take_succ_cons,List.take_zero,c1]; rfl) (ha:=by simp (disch:=first|omega|(simp only[ln];omega)) [idf_Wd',c1])
  refine .e ?_ (by simp (disch:=first|omega|(simp only[ln];omega)) [c1]; rfl)
  refine hK2 _ ?_
  refine .ret ?_
  exact hK _ _ _ _ trivial ((Fin.m).cast (by simp [sm,hx]))
end

end Go.Proofs.YtaibemhdfhchfaaGreat

/- Walks: the laws' own functions over loops. -/
namespace Go.Proofs.YtaibemhdfhchfaaGreat
open Go Go.RowKit
set_option linter.unusedSimpArgs false
set_option linter.unusedVariables false
set_option maxRecDepth 100000
attribute [local simp] szT25 byT25 agT25 unT25 zoT25 szT27 byT27 agT27 flT27 fdT27_0 fdT27_1 fdT27_2 fdT27_3 zoT27 szT29 byT29 agT29 flT29 fdT29_0 fdT29_1 fdT29_2 zoT29

set_option maxHeartbeats 1000000 in
theorem eqWide_fc (x : W4) : FC Tryz.prog 274 [.agg [.int .u64 x.a,.int .u64 x.b,.int .u64 x.c,.int .u64 x.d],.agg [.int .u64 x.a,.int .u64 x.b,.int .u64 x.c,.int .u64 x.d]] (.bool true):=by
 refine .b Tryz.func274 25 (fun nx K hK=>?_)
 refine .q ?_
 refine .sq fun K2 hK2=>?_
 refine .q ?_
 refine .c (fun h9=>?_) (fun h9=>?_)
 ·simp at h9
 ·try simp only[dc]at h9
  refine .skip ?_
  refine hK2 _ ?_
  refine .sq fun K4 hK4=>?_
  refine .q ?_
  refine .c (fun h14=>?_) (fun h14=>?_)
  ·simp at h14
  ·try simp only[dc]at h14
   refine .skip ?_
   refine hK4 _ ?_
   refine .sq fun K6 hK6=>?_
   refine .q ?_
   refine .c (fun h19=>?_) (fun h19=>?_)
   ·simp at h19
   ·try simp only[dc]at h19
    refine .skip ?_
    refine hK6 _ ?_
    refine .sq fun K8 hK8=>?_
    refine .q ?_
    refine .c (fun h24=>?_) (fun h24=>?_)
    ·simp at h24
    ·try simp only[dc]at h24
     refine .skip ?_
     refine hK8 _ ?_
     refine .q ?_
     refine .ret ?_
     exact hK _ _ _ _ trivial ((Fin.m))
section
attribute [local simp] Pt.cells
set_option maxHeartbeats 1000000 in
theorem eqPoint_fc (p : Pt) : FC Tryz.prog 222 [.agg p.cells,.agg p.cells] (.bool true):=by
 refine .b Tryz.func222 23 (fun nx K hK=>?_)
 refine .q ?_
 refine .sq fun K2 hK2=>?_
 refine .sq fun K3 hK3=>?_
 refine .region ?_
 refine .kf 4 (eqWide_fc p.x) hb274 ?_
 refine .e ?_
 refine hK3 _ ?_
 refine .c (fun h10=>?_) (fun h10=>?_)
 ·simp at h10
 ·try simp only[dc]at h10
  refine .skip ?_
  refine hK2 _ ?_
  refine .sq fun K4 hK4=>?_
  refine .sq fun K5 hK5=>?_
  refine .region ?_
  refine .kf 4 (eqWide_fc p.y) hb274 ?_
  refine .e ?_
  refine hK5 _ ?_
  refine .c (fun h16=>?_) (fun h16=>?_)
  ·simp at h16
  ·try simp only[dc]at h16
   refine .skip ?_
   refine hK4 _ ?_
   refine .sq fun K6 hK6=>?_
   refine .sq fun K7 hK7=>?_
   refine .region ?_
   refine .kf 4 (eqWide_fc p.w) hb274 ?_
   refine .e ?_
   refine hK7 _ ?_
   refine .c (fun h22=>?_) (fun h22=>?_)
   ·simp at h22
   ·try simp only[dc]at h22
    refine .skip ?_
    refine hK6 _ ?_
    refine .q ?_
    refine .ret ?_
    exact hK _ _ _ _ trivial ((Fin.m))
end

end Go.Proofs.YtaibemhdfhchfaaGreat

/- Walks: turns of three points. -/
namespace Go.Proofs.YtaibemhdfhchfaaGreat
open Go Go.RowKit
set_option linter.unusedSimpArgs false
set_option linter.unusedVariables false
set_option maxRecDepth 100000
attribute [local simp] szT4 byT4 agT4 unT4 zoT4 szT27 byT27 agT27 flT27 fdT27_0 fdT27_1 fdT27_2 fdT27_3 zoT27 szT29 byT29 agT29 flT29 fdT29_0 fdT29_1 fdT29_2 zoT29 szT108 byT108 agT108 elT108 unT108 zoT108 szT110 byT110 agT110 flT110 fdT110_0 fdT110_1 zoT110 szT112 byT112 agT112 flT112 fdT112_0 fdT112_1 fdT112_2 zoT112 szT125 byT125 agT125 elT125 unT125 zoT125 szT127 byT127 agT127 flT127 fdT127_0 fdT127_1 zoT127 szT129 byT129 agT129 flT129 fdT129_0 fdT129_1 fdT129_2 zoT129

section
attribute [local simp] idf_numS cells_numS numS_fold idf_numI cells_numI numI_fold Pt.av Pt.cells spA spC
end
section
attribute [local simp] idf_numS cells_numS numS_fold idf_numI cells_numI numI_fold l3A l3C
set_option maxHeartbeats 2000000 in
theorem l3Orient_fc (p q r : Pt) (hp : p.ok) (hq : q.ok) (hr : r.ok) : FC Tryz.prog 228 [l3A p.x.v p.y.v p.w.v,l3A q.x.v q.y.v q.w.v,l3A r.x.v r.y.v r.w.v] (.int .i64 (sg3 (det p q r))):=by
 have pX:=W4.bg hp.1
 have pY:=W4.bg hp.2.1
 have pW:=W4.bg hp.2.2
 have qX:=W4.bg hq.1
 have qY:=W4.bg hq.2.1
 have qW:=W4.bg hq.2.2
 have rX:=W4.bg hr.1
 have rY:=W4.bg hr.2.1
 have rW:=W4.bg hr.2.2
 refine .b Tryz.func228 58 (fun nx K hK=>?_) (hi:=by simp [idfL,idf,l3A,l3C,idf_Wd'])
 refine .q ?_
 refine .sq fun K2 hK2=>?_
 refine .d 15 ?_
 refine .k 6 (fun fs3 hfs3=>?_)
 refine .f (l1Mul_fc qY rW (by omega) (by omega)) hb182 ?_
 refine .k 4 (fun fs4 hfs4=>?_)
 refine .f (l1Mul_fc qW rY (by omega) (by omega)) hb182 ?_
 refine .f (l1Sub_fc (qY.mul rW) (qW.mul rY) (by omega) (by omega)) hb245 ?_
 refine .f (l1Mul_fc pX ((qY.mul rW).sub (qW.mul rY)) (by omega) (by omega)) hb182 ?_
 refine .k 1 (fun fs5 hfs5=>?_)
 refine .r 15 (by simp only[ln,hfs3,hfs4,hfs5];omega) ?_
 refine hK2 _ ?_
 refine .sq fun K6 hK6=>?_
 refine .d 15 ?_
 refine .k 6 (fun fs7 hfs7=>?_)
 refine .f (l1Mul_fc qX rW (by omega) (by omega)) hb182 ?_
 refine .k 4 (fun fs8 hfs8=>?_)
 refine .f (l1Mul_fc qW rX (by omega) (by omega)) hb182 ?_
 refine .f (l1Sub_fc (qX.mul rW) (qW.mul rX) (by omega) (by omega)) hb245 ?_
 refine .f (l1Mul_fc pY ((qX.mul rW).sub (qW.mul rX)) (by omega) (by omega)) hb182 ?_
 refine .k 1 (fun fs9 hfs9=>?_)
 refine .r 15 (by simp only[ln,hfs7,hfs8,hfs9];omega) ?_
 refine hK6 _ ?_
 refine .sq fun K10 hK10=>?_
 refine .d 15 ?_
 refine .k 6 (fun fs11 hfs11=>?_)
 refine .f (l1Mul_fc qX rY (by omega) (by omega)) hb182 ?_
 refine .k 4 (fun fs12 hfs12=>?_)
 refine .f (l1Mul_fc qY rX (by omega) (by omega)) hb182 ?_
 refine .f (l1Sub_fc (qX.mul rY) (qY.mul rX) (by omega) (by omega)) hb245 ?_
 refine .f (l1Mul_fc pW ((qX.mul rY).sub (qY.mul rX)) (by omega) (by omega)) hb182 ?_
 refine .k 1 (fun fs13 hfs13=>?_)
 refine .r 15 (by simp only[ln,hfs11,hfs12,hfs13];omega) ?_
 refine hK10 _ ?_
 refine .sq fun K14 hK14=>?_
 refine .d 6 ?_
 refine .k 2 (fun fs15 hfs15=>?_)
 refine .f (l1Sub_fc (pX.mul ((qY.mul rW).sub (qW.mul rY))) (pY.mul ((qX.mul rW).sub (qW.mul rX))) (by omega) (by omega)) hb245 ?_
 refine .k 1 (fun fs16 hfs16=>?_)
 refine .f (l1Add_fc ((pX.mul ((qY.mul rW).sub (qW.mul rY))).sub (pY.mul ((qX.mul rW).sub (qW.mul rX)))) (pW.mul ((qX.mul rY).sub (qY.mul rX))) (by omega) (by omega)) hb192 ?_
 refine .f (l1Sign_fc (p.x.v * (q.y.v * r.w.v - q.w.v * r.y.v) - p.y.v * (q.x.v * r.w.v - q.w.v * r.x.v) + p.w.v * (q.x.v * r.y.v - q.y.v * r.x.v))) hb176 ?_
 refine .r 6 (by simp only[ln,hfs15,hfs16];omega) ?_
 refine hK14 _ ?_
 refine .ret ?_
 exact hK _ _ _ _ trivial ((Fin.m).cast (by rw [det_spec]; rfl))
end

end Go.Proofs.YtaibemhdfhchfaaGreat

/- Walks: points made by the reference. -/
namespace Go.Proofs.YtaibemhdfhchfaaGreat
open Go Go.RowKit
set_option linter.unusedSimpArgs false
set_option linter.unusedVariables false
set_option maxRecDepth 100000
attribute [local simp] szT2 byT2 agT2 unT2 zoT2 szT4 byT4 agT4 unT4 zoT4 szT25 byT25 agT25 unT25 zoT25 szT27 byT27 agT27 flT27 fdT27_0 fdT27_1 fdT27_2 fdT27_3 zoT27 szT29 byT29 agT29 flT29 fdT29_0 fdT29_1 fdT29_2 zoT29 szT38 byT38 agT38 flT38 fdT38_0 fdT38_1 zoT38 szT125 byT125 agT125 elT125 unT125 zoT125 szT127 byT127 agT127 flT127 fdT127_0 fdT127_1 zoT127 szT129 byT129 agT129 flT129 fdT129_0 fdT129_1 fdT129_2 zoT129 szT271 byT271 agT271 unT271 zoT271

section
attribute [local simp] idf_numS cells_numS numS_fold
set_option maxHeartbeats 2000000 in
theorem l1Div_fc {j : Nat} (a b : Int) (hb0 : b ≠ 0) (ha : Bg j a) (hb : Bg j b) (hj : j ≤ 16777216) : FC Tryz.prog 252 [numS a,numS b] (.tup [numS (a / b),numS (a % b)]):=by
 have hD:=l1DivAbs_fc a.natAbs b.natAbs (by omega) ha.abs hb.abs hj
 rw [dg_abs,dg_abs] at hD
 have eu:=eu_lem a b hb0
 generalize hq : ((a.natAbs / b.natAbs : Nat) : Int) = q0 at *
 generalize hr : ((a.natAbs % b.natAbs : Nat) : Int) = r0 at *
 have q0n : 0 ≤ q0:=by rw [← hq]; exact Int.natCast_nonneg _
 have r0n : 0 ≤ r0:=by rw [← hr]; exact Int.natCast_nonneg _
 have bq : Bg j q0:=by
   rw [← hq]; unfold Bg at *; rw [Int.natAbs_natCast]; have:=Nat.div_le_self a.natAbs b.natAbs; omega
 have br : Bg j r0:=by
   rw [← hr]; unfold Bg at *; rw [Int.natAbs_natCast]; have:=Nat.mod_le a.natAbs b.natAbs; omega
 have bqs : ∀ s,Bg j (sg s q0):=fun s=>by cases s <;> simp only [sg_true,sg_false]; exact bq; exact bq.neg
 have brs : ∀ s,Bg j (sg s r0):=fun s=>by cases s <;> simp only [sg_true,sg_false]; exact br; exact br.neg
 have lq:=bq.len32
 have lr:=br.len32
 have hT1:=l1Trim_fc (decide (a < 0) != decide (b < 0)) (dg q0) (by omega) (dg_dig _)
 rw [dg_val,Int.natAbs_of_nonneg q0n] at hT1
 have hT2:=l1Trim_fc (decide (a < 0)) (dg r0) (by omega) (dg_dig _)
 rw [dg_val,Int.natAbs_of_nonneg r0n] at hT2
 obtain ⟨S,hS⟩ : ∃ S,(decide (a < 0) != decide (b < 0)) = S:=⟨_,rfl⟩
 have hS2 : (decide (a < 0) == decide (b < 0)) = !S:=by rw [← hS]; cases decide (a < 0) <;> cases decide (b < 0) <;> rfl
 rw [hS] at eu hT1
 refine .b Tryz.func252 47 (fun nx K hK=>?_)
 refine .q ?_
 refine .sq fun K2 hK2=>?_
 refine .region ?_
 refine .kf 4 hD hb246 ?_
 refine .e ?_
 refine hK2 _ ?_
 refine .sq fun K3 hK3=>?_
 refine .region ?_
 refine .kf 6 hT1 hb235 ?_ (by simp (disch:=first|omega|(simp only[ln];omega)) [List.take_succ_cons,List.take_zero,hS2]; rfl) (ha:=by simp (disch:=first|omega|(simp only[ln];omega)) [idf_Wd',hS2])
 refine .e ?_ (by simp (disch:=first|omega|(simp only[ln];omega)) [hS2]; rfl)
 refine hK3 _ ?_
 refine .sq fun K4 hK4=>?_
 refine .region ?_
 refine .kf 3 hT2 hb235 ?_
 refine .e ?_
 refine hK4 _ ?_
 refine .sq fun K5 hK5=>?_
 refine .q ?_
 refine .c (t:=decide (sg (decide (a < 0)) r0 < 0)) (fun h30=>?_) (fun h30=>?_)
 ·try simp only[dc]at h30
  refine .q ?_
  refine .c (t:=decide (b < 0)) (fun h32=>?_) (fun h32=>?_)
  ·try simp only[dc]at h32
   have e:=eu.2.1 h30 h32
   refine .sq fun K8 hK8=>?_
   refine .d 3 ?_
   refine .k 1 (fun fs9 hfs9=>?_)
   refine .f (l1Int_fc 1 (by omega) (by omega)) hb180 ?_
   refine .f (l1Add_fc (bqs S) (Bg.i64 (n:=1) (by omega) (by omega)) (by omega) (by omega)) hb192 ?_
   refine .r 3 (by simp only[ln,hfs9];omega) ?_
   refine hK8 _ ?_
   refine .region ?_
   refine .kf 2 (l1Sub_fc (brs (decide (a < 0))) hb (by omega) (by omega)) hb245 ?_
   refine .e ?_
   refine hK5 _ ?_
   refine .sq fun K10 hK10=>?_
   refine .old fun hold=>?_
   refine .d 2 ?_
   refine .k 1 (fun fs11 hfs11=>?_)
   refine DP.runF1q (by simp (disch:=first|omega|(simp only[ln];omega)) [runDf.eq_def,runF1,runF2,stepF.eq_def,updo.eq_def,hupo.eq_def,opSto1.eq_def]; rfl) fun fq12 hfq12=>?_
   simp [qids,asksB,Op.operands,topId] at hfq12
   simp only [updo]
   refine DQ.sto1 (m:=2) [1] _ (by simp (disch:=first|omega|(simp only[ln];omega)) [runDf.eq_def,runF1,runF2,stepF.eq_def,updo.eq_def,hupo.eq_def,opSto1.eq_def]; rfl) rfl (by simp only[ln,hfs11];omega) (by kernel_rfl) (by intro k f hk hex; simp only [List.mem_cons,List.not_mem_nil,or_false] at hex; rcases hex with rfl <;> (simp [List.getElem?_append,hfs11] at hk; subst hk; refine ⟨?_,by first | omega | (simp; done) | (simp; omega)⟩; simp [qids,asksB,Op.operands,Call.operands,topId,numS,numI,Wd,hfq12]; try omega)) ?_
   try simp only []
   refine DQ.sto1 (m:=2) [] _ (by simp (disch:=first|omega|(simp only[ln];omega)) [runDf.eq_def,runF1,runF2,stepF.eq_def,updo.eq_def,hupo.eq_def,opSto1.eq_def]; rfl) rfl (by simp only[ln,hfs11];omega) (by kernel_rfl) (by intro k f hk hex; simp only [List.not_mem_nil] at hex) ?_
   try simp only []
   refine hK10 _ ?_
   refine .ret ?_
   exact hK _ _ _ _ trivial ((Fin.m).cast (by rw [e.1,e.2]))
  ·try simp only[dc]at h32
   have e:=eu.2.2 h30 h32
   refine .sq fun K13 hK13=>?_
   refine .d 3 ?_
   refine .k 1 (fun fs14 hfs14=>?_)
   refine .f (l1Int_fc 1 (by omega) (by omega)) hb180 ?_
   refine .f (l1Sub_fc (bqs S) (Bg.i64 (n:=1) (by omega) (by omega)) (by omega) (by omega)) hb245 ?_
   refine .r 3 (by simp only[ln,hfs14];omega) ?_
   refine hK13 _ ?_
   refine .region ?_
   refine .kf 2 (l1Add_fc (brs (decide (a < 0))) hb (by omega) (by omega)) hb192 ?_
   refine .e ?_
   refine hK5 _ ?_
   refine .sq fun K15 hK15=>?_
   refine .old fun hold=>?_
   refine .d 2 ?_
   refine .k 1 (fun fs16 hfs16=>?_)
   refine DP.runF1q (by simp (disch:=first|omega|(simp only[ln];omega)) [runDf.eq_def,runF1,runF2,stepF.eq_def,updo.eq_def,hupo.eq_def,opSto1.eq_def]; rfl) fun fq17 hfq17=>?_
   simp [qids,asksB,Op.operands,topId] at hfq17
   simp only [updo]
   refine DQ.sto1 (m:=2) [1] _ (by simp (disch:=first|omega|(simp only[ln];omega)) [runDf.eq_def,runF1,runF2,stepF.eq_def,updo.eq_def,hupo.eq_def,opSto1.eq_def]; rfl) rfl (by simp only[ln,hfs16];omega) (by kernel_rfl) (by intro k f hk hex; simp only [List.mem_cons,List.not_mem_nil,or_false] at hex; rcases hex with rfl <;> (simp [List.getElem?_append,hfs16] at hk; subst hk; refine ⟨?_,by first | omega | (simp; done) | (simp; omega)⟩; simp [qids,asksB,Op.operands,Call.operands,topId,numS,numI,Wd,hfq17]; try omega)) ?_
   try simp only []
   refine DQ.sto1 (m:=2) [] _ (by simp (disch:=first|omega|(simp only[ln];omega)) [runDf.eq_def,runF1,runF2,stepF.eq_def,updo.eq_def,hupo.eq_def,opSto1.eq_def]; rfl) rfl (by simp only[ln,hfs16];omega) (by kernel_rfl) (by intro k f hk hex; simp only [List.not_mem_nil] at hex) ?_
   try simp only []
   refine hK15 _ ?_
   refine .ret ?_
   exact hK _ _ _ _ trivial ((Fin.m).cast (by rw [e.1,e.2]))
 ·try simp only[dc]at h30
  have e:=eu.1 h30
  refine .skip ?_
  refine hK5 _ ?_
  refine .sq fun K18 hK18=>?_
  refine .old fun hold=>?_
  refine .d 2 ?_
  refine .k 1 (fun fs19 hfs19=>?_)
  refine DP.runF1q (by simp (disch:=first|omega|(simp only[ln];omega)) [runDf.eq_def,runF1,runF2,stepF.eq_def,updo.eq_def,hupo.eq_def,opSto1.eq_def]; rfl) fun fq20 hfq20=>?_
  simp [qids,asksB,Op.operands,topId] at hfq20
  simp only [updo]
  refine DQ.sto1 (m:=2) [1] _ (by simp (disch:=first|omega|(simp only[ln];omega)) [runDf.eq_def,runF1,runF2,stepF.eq_def,updo.eq_def,hupo.eq_def,opSto1.eq_def]; rfl) rfl (by simp only[ln,hfs19];omega) (by kernel_rfl) (by intro k f hk hex; simp only [List.mem_cons,List.not_mem_nil,or_false] at hex; rcases hex with rfl <;> (simp [List.getElem?_append,hfs19] at hk; subst hk; refine ⟨?_,by first | omega | (simp; done) | (simp; omega)⟩; simp [qids,asksB,Op.operands,Call.operands,topId,numS,numI,Wd,hfq20]; try omega)) ?_
  try simp only []
  refine DQ.sto1 (m:=2) [] _ (by simp (disch:=first|omega|(simp only[ln];omega)) [runDf.eq_def,runF1,runF2,stepF.eq_def,updo.eq_def,hupo.eq_def,opSto1.eq_def]; rfl) rfl (by simp only[ln,hfs19];omega) (by kernel_rfl) (by intro k f hk hex; simp only [List.not_mem_nil] at hex) ?_
  try simp only []
  refine hK18 _ ?_
  refine .ret ?_
  exact hK _ _ _ _ trivial ((Fin.m).cast (by rw [e.1,e.2]))
set_option maxHeartbeats 2000000 in
theorem l3Make_fc {j : Nat} (x y w : Int) (hw : w ≠ 0) (bx : Bg j x) (bY : Bg j y) (bw : Bg j w) (hj0 : 1 ≤ j) (hj : j ≤ 16777216) : FC Tryz.prog 193 [numS x,numS y,numS w] (l3A (nrm w x / gcd3 x y w) (nrm w y / gcd3 x y w) (nrm w w / gcd3 x y w)):=by
 have hgp:=gcd3_pos (x:=x) (y:=y) hw
 have hg3:=gcd3_nrm x y w
 refine .b Tryz.func193 47 (fun nx K hK=>?_) (hr:=by simp [idfL,idf,l3A,l3C,idf_Wd'])
 refine .q ?_
 refine .sq fun K2 hK2=>?_
 have J2 : ∀ s : St,(∃ X Y W : Int,X = nrm w x ∧ Y = nrm w y ∧ W = nrm w w ∧ s.env 3 = .ptr nx 0 0 ∧ s.env 4 = .ptr (nx + 1) 0 0 ∧ s.env 5 = .ptr (nx + 1 + 1) 0 0 ∧ s.env 6 = .ptr (nx + 1 + 1 + 1) 0 0 ∧ s.heap nx = some (2,[[.bool (decide (X < 0)),Wd .u32 (dg X)]]) ∧ s.heap (nx + 1) = some (2,[[.bool (decide (Y < 0)),Wd .u32 (dg Y)]]) ∧ s.heap (nx + 1 + 1) = some (2,[[.bool (decide (W < 0)),Wd .u32 (dg W)]]) ∧ s.heap (nx + 1 + 1 + 1) = some (6,[[.bool false,.nsl,.bool false,.nsl,.bool false,.nsl]]) ∧ nx + 1 + 1 + 1 < s.nx ∧ s.nt = 47) → K2 s:=by
  rintro ⟨e,H,mm,nt⟩ ⟨X,Y,W,hX,hY,hW,h3,h4,h5,h6,hA,hB,hC,hD,hm,rfl⟩
  simp only [] at h3 h4 h5 h6 hA hB hC hD hm
  rw [← hX,← hY,← hW] at hg3
  have cX : Bg j X:=by rw [hX]; exact bx.nrm
  have cY : Bg j Y:=by rw [hY]; exact bY.nrm
  have cW : Bg j W:=by rw [hW]; exact bw.nrm
  have bG1 : Bg j ((Int.gcd X Y : Nat) : Int):=Bg.gcd cX.abs cY.abs
  have bG : Bg j (gcd3 x y w):=by rw [← hg3]; exact Bg.gcd bG1 cW.abs
  have hg2 : FC Tryz.prog 179 [numS ((Int.gcd X Y : Nat) : Int),numS W] (numS (gcd3 x y w)):=by
    have h:=l1Gcd_fc ((Int.gcd X Y : Nat) : Int) W bG1 cW hj
    have e : ((Int.gcd ((Int.gcd X Y : Nat) : Int) W : Nat) : Int) = gcd3 x y w:=by rw [← hg3]; simp [Int.gcd,gcd3]
    rw [e] at h; exact h
  obtain ⟨cc,hcf,hce⟩ : ∃ c : Int,FC Tryz.prog 178 [numS (gcd3 x y w),numS 1] (.int .i64 c) ∧ (c == 0) = decide (gcd3 x y w = 1):=⟨_,l1Cmp_fc bG (Bg.i64 (n:=1) (by omega) (by omega)) (by omega) (by omega),one_cmp _⟩
  generalize hgg : gcd3 x y w = g at *
  refine hK2 _ ?_
  refine .sq fun K3 hK3=>?_
  refine .d 6 ?_
  refine .k 2 (fun fs4 hfs4=>?_) (by simp (disch:=first|omega|(simp only[ln];omega)) [runDf.eq_def,runF1,runF2,stepF.eq_def,updo.eq_def,hupo.eq_def,opSto1.eq_def,List.take_succ_cons,List.take_zero,h3,h4,h5,hA,hB,hC,Nat.ne_of_lt hm]; rfl)
  refine .f (l1Gcd_fc X Y cX cY hj) hb179 ?_ (ha:=by simp (disch:=first|omega|(simp only[ln];omega)) [idf_Wd',h3,h4,h5,hA,hB,hC,Nat.ne_of_lt hm])
  refine .k 1 (fun fs5 hfs5=>?_) (by simp (disch:=first|omega|(simp only[ln];omega)) [runDf.eq_def,runF1,runF2,stepF.eq_def,updo.eq_def,hupo.eq_def,opSto1.eq_def,List.take_succ_cons,List.take_zero,h3,h4,h5,hA,hB,hC,Nat.ne_of_lt hm]; rfl)
  refine .f hg2 hb179 ?_ (ha:=by simp (disch:=first|omega|(simp only[ln];omega)) [idf_Wd',h3,h4,h5,hA,hB,hC,Nat.ne_of_lt hm])
  refine .k 1 (fun fs6 hfs6=>?_) (by simp (disch:=first|omega|(simp only[ln];omega)) [runDf.eq_def,runF1,runF2,stepF.eq_def,updo.eq_def,hupo.eq_def,opSto1.eq_def,List.take_succ_cons,List.take_zero,h3,h4,h5,hA,hB,hC,Nat.ne_of_lt hm]; rfl)
  refine .r 6 (by simp only[ln,hfs4,hfs5,hfs6];omega) ?_ (by simp (disch:=first|omega|(simp only[ln];omega)) [runDf.eq_def,runF1,runF2,stepF.eq_def,updo.eq_def,hupo.eq_def,opSto1.eq_def,h3,h4,h5,hA,hB,hC,Nat.ne_of_lt hm]; rfl)
  refine hK3 _ ?_
  refine .sq fun K7 hK7=>?_
  refine .sq fun K8 hK8=>?_
  refine .d 4 ?_
  refine .k 1 (fun fs9 hfs9=>?_)
  refine .f (l1Int_fc 1 (by omega) (by omega)) hb180 ?_
  refine .f hcf hb178 ?_
  refine .k 1 (fun fs10 hfs10=>?_)
  refine .r 4 (by simp only[ln,hfs9,hfs10];omega) ?_
  refine hK8 _ ?_
  refine .c (t:=!decide (g = 1)) (fun h24=>?_) (fun h24=>?_) (by simp (disch:=first|omega|(simp only[ln];omega)) [bne,hce])
  ·try simp only[dc]at h24
   refine .sq fun K11 hK11=>?_
   refine .region ?_
   refine .kf 2 (l1Div_fc X g (by omega) cX bG hj) hb252 ?_ (by simp (disch:=first|omega|(simp only[ln];omega)) [List.take_succ_cons,List.take_zero,h3,hA]; rfl) (ha:=by simp (disch:=first|omega|(simp only[ln];omega)) [idf_Wd',h3,hA])
   refine .e ?_ (by simp (disch:=first|omega|(simp only[ln];omega)) [h3,hA]; rfl)
   refine hK11 _ ?_
   refine .sq fun K12 hK12=>?_
   refine .region ?_
   refine .kf 2 (l1Div_fc Y g (by omega) cY bG hj) hb252 ?_ (by simp (disch:=first|omega|(simp only[ln];omega)) [List.take_succ_cons,List.take_zero,h4,hB]; rfl) (ha:=by simp (disch:=first|omega|(simp only[ln];omega)) [idf_Wd',h4,hB])
   refine .e ?_ (by simp (disch:=first|omega|(simp only[ln];omega)) [h4,hB]; rfl)
   refine hK12 _ ?_
   refine .region ?_
   refine .kf 2 (l1Div_fc W g (by omega) cW bG hj) hb252 ?_ (by simp (disch:=first|omega|(simp only[ln];omega)) [List.take_succ_cons,List.take_zero,h5,hC]; rfl) (ha:=by simp (disch:=first|omega|(simp only[ln];omega)) [idf_Wd',h5,hC])
   refine .e ?_ (by simp (disch:=first|omega|(simp only[ln];omega)) [h5,hC]; rfl)
   refine hK7 _ ?_
   refine .q ?_ (by simp (disch:=first|omega|(simp only[ln];omega)) [h3,h4,h5,h6,hD]; rfl)
   refine .ret ?_
   exact hK _ _ _ _ trivial ((Fin.mk (by simp (disch:=omega) [aRes,aResL,aRes1,h6]; rfl)).cast (by rw [← hX,← hY,← hW]; first | done | rfl))
  ·try simp only[dc]at h24
   have hg1 : g = 1:=by simpa using h24
   refine .skip ?_
   refine hK7 _ ?_
   refine .q ?_ (by simp (disch:=first|omega|(simp only[ln];omega)) [h3,h4,h5,h6,hA,hB,hC,hD]; rfl)
   refine .ret ?_
   exact hK _ _ _ _ trivial ((Fin.mk (by simp (disch:=omega) [aRes,aResL,aRes1,h6]; rfl)).cast (by rw [← hX,← hY,← hW,hg1,Int.ediv_one,Int.ediv_one,Int.ediv_one]; first | done | rfl))
 refine .q ?_
 refine .c (t:=decide (w < 0)) (fun h9=>?_) (fun h9=>?_)
 ·try simp only[dc]at h9
  refine .old fun hold=>?_
  refine .d 6 ?_
  refine .k 1 (fun fs16 hfs16=>?_)
  refine .f (l1Neg_fc x) hb251 ?_
  refine DP.runF1q (by simp (disch:=first|omega|(simp only[ln];omega)) [runDf.eq_def,runF1,runF2,stepF.eq_def,updo.eq_def,hupo.eq_def,opSto1.eq_def]; rfl) fun fq17 hfq17=>?_
  simp [qids,asksB,Op.operands,topId] at hfq17
  simp only [updo]
  refine .f (l1Neg_fc y) hb251 ?_
  refine DP.runF1q (by simp (disch:=first|omega|(simp only[ln];omega)) [runDf.eq_def,runF1,runF2,stepF.eq_def,updo.eq_def,hupo.eq_def,opSto1.eq_def]; rfl) fun fq18 hfq18=>?_
  simp [qids,asksB,Op.operands,topId] at hfq18
  simp only [updo]
  refine .f (l1Neg_fc w) hb251 ?_
  refine DQ.sto1 (m:=6) [2,3,4] _ (by simp (disch:=first|omega|(simp only[ln];omega)) [runDf.eq_def,runF1,runF2,stepF.eq_def,updo.eq_def,hupo.eq_def,opSto1.eq_def]; rfl) rfl (by simp only[ln,hfs16];omega) (by kernel_rfl) (by intro k f hk hex; simp only [List.mem_cons,List.not_mem_nil,or_false] at hex; rcases hex with rfl | rfl | rfl <;> (simp [List.getElem?_append,hfs16] at hk; subst hk; refine ⟨?_,by first | omega | (simp; done) | (simp; omega)⟩; simp [qids,asksB,Op.operands,Call.operands,topId,numS,numI,Wd,hfq17,hfq18]; try omega)) ?_
  try simp only []
  refine DQ.sto1 (m:=6) [4,5] _ (by simp (disch:=first|omega|(simp only[ln];omega)) [runDf.eq_def,runF1,runF2,stepF.eq_def,updo.eq_def,hupo.eq_def,opSto1.eq_def]; rfl) rfl (by simp only[ln,hfs16];omega) (by kernel_rfl) (by intro k f hk hex; simp only [List.mem_cons,List.not_mem_nil,or_false] at hex; rcases hex with rfl | rfl <;> (simp [List.getElem?_append,hfs16] at hk; subst hk; refine ⟨?_,by first | omega | (simp; done) | (simp; omega)⟩; simp [qids,asksB,Op.operands,Call.operands,topId,numS,numI,Wd,hfq17,hfq18]; try omega)) ?_
  try simp only []
  refine DQ.sto1 (m:=6) [] _ (by simp (disch:=first|omega|(simp only[ln];omega)) [runDf.eq_def,runF1,runF2,stepF.eq_def,updo.eq_def,hupo.eq_def,opSto1.eq_def]; rfl) rfl (by simp only[ln,hfs16];omega) (by kernel_rfl) (by intro k f hk hex; simp only [List.not_mem_nil] at hex) ?_
  try simp only []
  refine J2 _ ?_
  exact ⟨-x,-y,-w,by simp [nrm,h9],by simp [nrm,h9],by simp [nrm,h9],by simp,by simp,by simp,by simp,by simp (disch:=omega),by simp (disch:=omega),by simp (disch:=omega),by simp (disch:=omega),by simp,rfl⟩
 ·try simp only[dc]at h9
  refine .skip ?_
  refine J2 _ ?_
  exact ⟨x,y,w,by simp [nrm,h9],by simp [nrm,h9],by simp [nrm,h9],by simp,by simp,by simp,by simp,by simp (disch:=omega),by simp (disch:=omega),by simp (disch:=omega),by simp (disch:=omega),by simp,rfl⟩
end
section
attribute [local simp] idf_numS cells_numS numS_fold l3A l3C
set_option maxHeartbeats 2000000 in
theorem l3Point_fc {k : Nat} (x y w : Int) (bx : Bg k x) (bY : Bg k y) (bw : Bg k w) (hk : k ≤ 68719476736) : FC Tryz.prog 135 [l3A x y w] (.tup [.agg [.int .u64 (pt3 x y w).x.a,.int .u64 (pt3 x y w).x.b,.int .u64 (pt3 x y w).x.c,.int .u64 (pt3 x y w).x.d,.int .u64 (pt3 x y w).y.a,.int .u64 (pt3 x y w).y.b,.int .u64 (pt3 x y w).y.c,.int .u64 (pt3 x y w).y.d,.int .u64 (pt3 x y w).w.a,.int .u64 (pt3 x y w).w.b,.int .u64 (pt3 x y w).w.c,.int .u64 (pt3 x y w).w.d],.bool (sm x y w)]):=by
 have hs:=l3Small_fc bx bY bw hk
 have w1:=l1Wide_fc bx hk
 have w2:=l1Wide_fc bY hk
 have w3:=l1Wide_fc bw hk
 rw [wdT_l] at w1 w2 w3
 unfold W4.l at w1 w2 w3
 refine .b Tryz.func135 36 (fun nx K hK=>?_)
 refine .q ?_
 refine .sq fun K2 hK2=>?_
 refine .sq fun K3 hK3=>?_
 refine .region ?_
 refine .kf 1 hs hb177 ?_
 refine .e ?_
 refine hK3 _ ?_
 refine .c (t:=!(sm x y w)) (fun h12=>?_) (fun h12=>?_)
 ·try simp only[dc]at h12
  have hb : sm x y w = false:=by simpa using h12
  refine .q ?_
  refine .ret ?_
  exact hK _ _ _ _ trivial ((Fin.m).cast (by rw [pt3,hb]; rfl))
 ·try simp only[dc]at h12
  have hb : sm x y w = true:=by simpa using h12
  refine .skip ?_
  refine hK2 _ ?_
  refine .sq fun K5 hK5=>?_
  refine .region ?_
  refine .kf 2 w1 hb211 ?_
  refine .e ?_
  refine hK5 _ ?_
  refine .sq fun K6 hK6=>?_
  refine .region ?_
  refine .kf 2 w2 hb211 ?_
  refine .e ?_
  refine hK6 _ ?_
  refine .sq fun K7 hK7=>?_
  refine .region ?_
  refine .kf 2 w3 hb211 ?_
  refine .e ?_
  refine hK7 _ ?_
  refine .q ?_
  refine .ret ?_
  exact hK _ _ _ _ trivial ((Fin.m).cast (by rw [pt3,if_pos hb,hb]))
end
section
attribute [local simp] idf_numS cells_numS numS_fold
theorem l3Spot_fc (x y : Int) (hx1 : -9223372036854775808 ≤ x) (hx2 : x ≤ 9223372036854775807) (hy1 : -9223372036854775808 ≤ y) (hy2 : y ≤ 9223372036854775807) : FC Tryz.prog 93 [.agg [.int .i64 x,.int .i64 y]] (l3A x y 1):=by
 refine .b Tryz.func93 11 (fun nx K hK=>?_) (hr:=by simp [idfL,idf,l3A,l3C,idf_Wd'])
 refine .q ?_
 refine .sq fun K2 hK2=>?_
 refine .d 8 ?_
 refine .k 2 (fun fs3 hfs3=>?_)
 refine .f (l1Int_fc x hx1 hx2) hb180 ?_
 refine .k 2 (fun fs4 hfs4=>?_)
 refine .f (l1Int_fc y hy1 hy2) hb180 ?_
 refine .f (l1Int_fc 1 (by omega) (by omega)) hb180 ?_
 refine .k 1 (fun fs5 hfs5=>?_)
 refine .r 8 (by simp only[ln,hfs3,hfs4,hfs5];omega) ?_
 refine hK2 _ ?_
 refine .ret ?_
 exact hK _ _ _ _ trivial ((Fin.m).cast (by rfl))
end

end Go.Proofs.YtaibemhdfhchfaaGreat

/- Walks: points made and halved by the reference. -/
namespace Go.Proofs.YtaibemhdfhchfaaGreat
open Go Go.RowKit
set_option linter.unusedSimpArgs false
set_option linter.unusedVariables false
set_option maxRecDepth 100000
attribute [local simp] szT25 byT25 agT25 unT25 zoT25 szT27 byT27 agT27 flT27 fdT27_0 fdT27_1 fdT27_2 fdT27_3 zoT27 szT29 byT29 agT29 flT29 fdT29_0 fdT29_1 fdT29_2 zoT29

theorem eqW1 (n : Nat) (a a' : Int) : eqW Tryz.prog (n + 1) 25 [.int .u64 a] [.int .u64 a'] = some (a == a'):=by
  unfold eqW; simp only [Tryz.underlying25]; rfl
section
attribute [local simp] idf_numS cells_numS numS_fold wdI
end

end Go.Proofs.YtaibemhdfhchfaaGreat

/- Walks: points in order, between, crossings (both). -/
namespace Go.Proofs.YtaibemhdfhchfaaGreat
open Go Go.RowKit
set_option linter.unusedSimpArgs false
set_option linter.unusedVariables false
set_option maxRecDepth 100000
attribute [local simp] szT2 byT2 agT2 unT2 zoT2 szT4 byT4 agT4 unT4 zoT4 szT27 byT27 agT27 flT27 fdT27_0 fdT27_1 fdT27_2 fdT27_3 zoT27 szT29 byT29 agT29 flT29 fdT29_0 fdT29_1 fdT29_2 zoT29 szT108 byT108 agT108 elT108 unT108 zoT108 szT110 byT110 agT110 flT110 fdT110_0 fdT110_1 zoT110 szT112 byT112 agT112 flT112 fdT112_0 fdT112_1 fdT112_2 zoT112 szT125 byT125 agT125 elT125 unT125 zoT125 szT127 byT127 agT127 flT127 fdT127_0 fdT127_1 zoT127 szT129 byT129 agT129 flT129 fdT129_0 fdT129_1 fdT129_2 zoT129

theorem beqd (a b : Int) : (a == b) = decide (a = b):=by rw [Bool.eq_iff_iff]; simp
theorem eqW4n (n : Nat) (a b c d a' b' c' d' : Int) : eqW Tryz.prog (n + 2) 27 [.int .u64 a,.int .u64 b,.int .u64 c,.int .u64 d] [.int .u64 a',.int .u64 b',.int .u64 c',.int .u64 d'] = some ((a == a') && ((b == b') && ((c == c') && ((d == d') && true)))):=by
  have hs : Tryz.prog.stoodInHeld 27 = false:=by kernel_rfl
  have hz : szOf Tryz.prog 25 = some 1:=by kernel_rfl
  have ha : aggT Tryz.prog 25 = some false:=by kernel_rfl
  unfold eqW
  simp only [Tryz.underlying27,hs]
  simp [eqF,hz,ha,eqW1]
theorem eqPt (p q : Pt) : eqW Tryz.prog 8 29 [.int .u64 p.x.a,.int .u64 p.x.b,.int .u64 p.x.c,.int .u64 p.x.d,.int .u64 p.y.a,.int .u64 p.y.b,.int .u64 p.y.c,.int .u64 p.y.d,.int .u64 p.w.a,.int .u64 p.w.b,.int .u64 p.w.c,.int .u64 p.w.d] [.int .u64 q.x.a,.int .u64 q.x.b,.int .u64 q.x.c,.int .u64 q.x.d,.int .u64 q.y.a,.int .u64 q.y.b,.int .u64 q.y.c,.int .u64 q.y.d,.int .u64 q.w.a,.int .u64 q.w.b,.int .u64 q.w.c,.int .u64 q.w.d] = some (decide (p = q)):=by
  have hs : Tryz.prog.stoodInHeld 29 = false:=by kernel_rfl
  have hz : szOf Tryz.prog 27 = some 4:=by kernel_rfl
  have ha : aggT Tryz.prog 27 = some true:=by kernel_rfl
  unfold eqW
  simp only [Tryz.underlying29,hs]
  simp [eqF,hz,ha,eqW4n]
  obtain ⟨⟨a1,a2,a3,a4⟩,⟨b1,b2,b3,b4⟩,⟨c1,c2,c3,c4⟩⟩:=p
  obtain ⟨⟨d1,d2,d3,d4⟩,⟨e1,e2,e3,e4⟩,⟨f1,f2,f3,f4⟩⟩:=q
  rw [Bool.eq_iff_iff]
  simp [Pt.mk.injEq,W4.mk.injEq,and_assoc]
theorem cmV_self (p : Pt) : cmV p p = 0:=by
  have:=cmV_anti p p; omega
section
attribute [local simp] idf_numS cells_numS numS_fold idf_numI cells_numI numI_fold Pt.av Pt.cells spA spC
set_option maxHeartbeats 2000000 in
theorem cmpPoints_fc (p q : Pt) (hp : p.ok) (hq : q.ok) : FC Tryz.prog 123 [p.av,q.av] (.int .i64 (cmV p q)):=by
 have pX:=W4.bg hp.1
 have pY:=W4.bg hp.2.1
 have pW:=W4.bg hp.2.2
 have qX:=W4.bg hq.1
 have qY:=W4.bg hq.2.1
 have qW:=W4.bg hq.2.2
 have hcx : FC Tryz.prog 78 [numI (p.x.v * q.w.v),numI (q.x.v * p.w.v)] (.int .i64 (cmX p q)):=cmp_fc (pX.mul qW) (qX.mul pW) (by omega) (by omega)
 have hcy : FC Tryz.prog 78 [numI (p.y.v * q.w.v),numI (q.y.v * p.w.v)] (.int .i64 (cmY p q)):=cmp_fc (pY.mul qW) (qY.mul pW) (by omega) (by omega)
 refine .b Tryz.func123 40 (fun nx K hK=>?_) (hi:=by simp [idfL,idf,Pt.av,Pt.cells])
 refine .q ?_
 refine .sq fun K2 hK2=>?_
 refine .q ?_ (by simp (disch:=first|omega|(simp only[ln];omega)) [eqPt]; rfl)
 refine .c (t:=decide (p = q)) (fun h10=>?_) (fun h10=>?_)
 ·try simp only[dc]at h10
  subst h10
  refine .q ?_
  refine .ret ?_
  exact hK _ _ _ _ trivial ((Fin.m).cast (by rw [cmV_self]))
 ·try simp only[dc]at h10
  refine .skip ?_
  refine hK2 _ ?_
  refine .sq fun K5 hK5=>?_
  refine .old fun hold=>?_
  refine .d 6 ?_
  refine .k 1 (fun fs6 hfs6=>?_)
  refine .f (spot_fc p hp) hb77 ?_
  refine DP.runF1q (by simp (disch:=first|omega|(simp only[ln];omega)) [runDf.eq_def,runF1,runF2,stepF.eq_def,updo.eq_def,hupo.eq_def,opSto1.eq_def]; rfl) fun fq7 hfq7=>?_
  simp [qids,asksB,Op.operands,topId] at hfq7
  simp only [updo]
  refine .f (spot_fc q hq) hb77 ?_
  refine .k 2 (fun fs8 hfs8=>?_)
  refine DQ.sto1 (m:=6) [2] _ (by simp (disch:=first|omega|(simp only[ln];omega)) [runDf.eq_def,runF1,runF2,stepF.eq_def,updo.eq_def,hupo.eq_def,opSto1.eq_def]; rfl) rfl (by simp only[ln,hfs6,hfs8];omega) (by kernel_rfl) (by intro k f hk hex; simp only [List.mem_cons,List.not_mem_nil,or_false] at hex; rcases hex with rfl <;> (simp [List.getElem?_append,hfs6,hfs8] at hk; subst hk; refine ⟨?_,by first | omega | (simp; done) | (simp; omega)⟩; simp [qids,asksB,Op.operands,Call.operands,topId,numS,numI,Wd,hfq7]; try omega)) ?_
  try simp only []
  refine DQ.sto1 (m:=6) [] _ (by simp (disch:=first|omega|(simp only[ln];omega)) [runDf.eq_def,runF1,runF2,stepF.eq_def,updo.eq_def,hupo.eq_def,opSto1.eq_def]; rfl) rfl (by simp only[ln,hfs6,hfs8];omega) (by kernel_rfl) (by intro k f hk hex; simp only [List.not_mem_nil] at hex) ?_
  try simp only []
  refine hK5 _ ?_
  refine .sq fun K9 hK9=>?_
  refine .sq fun K10 hK10=>?_
  refine .d 11 ?_
  refine .k 4 (fun fs11 hfs11=>?_)
  refine .f (by_fc pX qW (by omega) (by omega)) hb80 ?_
  refine .k 4 (fun fs12 hfs12=>?_)
  refine .f (by_fc qX pW (by omega) (by omega)) hb80 ?_
  refine .f hcx hb78 ?_
  refine .r 11 (by simp only[ln,hfs11,hfs12];omega) ?_
  refine hK10 _ ?_
  refine .q ?_
  refine .c (t:=cmX p q != 0) (fun h27=>?_) (fun h27=>?_) (by simp (disch:=first|omega|(simp only[ln];omega)) [bne])
  ·try simp only[dc]at h27
   have hne : cmX p q ≠ 0:=by simpa using h27
   refine .q ?_
   refine .ret ?_
   exact hK _ _ _ _ trivial ((Fin.m).cast (by rw [cmV,if_pos hne]))
  ·try simp only[dc]at h27
   have hne : ¬ cmX p q ≠ 0:=by simpa using h27
   refine .skip ?_
   refine hK9 _ ?_
   refine .sq fun K15 hK15=>?_
   refine .d 11 ?_
   refine .k 4 (fun fs16 hfs16=>?_)
   refine .f (by_fc pY qW (by omega) (by omega)) hb80 ?_
   refine .k 4 (fun fs17 hfs17=>?_)
   refine .f (by_fc qY pW (by omega) (by omega)) hb80 ?_
   refine .f hcy hb78 ?_
   refine .r 11 (by simp only[ln,hfs16,hfs17];omega) ?_
   refine hK15 _ ?_
   refine .ret ?_
   exact hK _ _ _ _ trivial ((Fin.m).cast (by rw [cmV,if_neg hne]))
end
section
attribute [local simp] idf_numS cells_numS numS_fold idf_numI cells_numI numI_fold Pt.av Pt.cells
end
section
attribute [local simp] idf_numS cells_numS numS_fold idf_numI cells_numI numI_fold Pt.av Pt.cells spA spC
end
section
attribute [local simp] idf_numS cells_numS numS_fold idf_numI cells_numI numI_fold l3A l3C
theorem l3CmpX_fc (p q : Pt) (hp : p.ok) (hq : q.ok) : FC Tryz.prog 92 [l3A p.x.v p.y.v p.w.v,l3A q.x.v q.y.v q.w.v] (.int .i64 (cmX p q)):=by
 have pX:=W4.bg hp.1
 have pY:=W4.bg hp.2.1
 have pW:=W4.bg hp.2.2
 have qX:=W4.bg hq.1
 have qY:=W4.bg hq.2.1
 have qW:=W4.bg hq.2.2
 have hcx : FC Tryz.prog 178 [numS (p.x.v * q.w.v),numS (q.x.v * p.w.v)] (.int .i64 (cmX p q)):=l1Cmp_fc (pX.mul qW) (qX.mul pW) (by omega) (by omega)
 refine .b Tryz.func92 16 (fun nx K hK=>?_) (hi:=by simp [idfL,idf,l3A,l3C,idf_Wd'])
 refine .q ?_
 refine .sq fun K2 hK2=>?_
 refine .d 11 ?_
 refine .k 4 (fun fs3 hfs3=>?_)
 refine .f (l1Mul_fc pX qW (by omega) (by omega)) hb182 ?_
 refine .k 4 (fun fs4 hfs4=>?_)
 refine .f (l1Mul_fc qX pW (by omega) (by omega)) hb182 ?_
 refine .f hcx hb178 ?_
 refine .r 11 (by simp only[ln,hfs3,hfs4];omega) ?_
 refine hK2 _ ?_
 refine .ret ?_
 exact hK _ _ _ _ trivial (Fin.m)
theorem l3CmpY_fc (p q : Pt) (hp : p.ok) (hq : q.ok) : FC Tryz.prog 183 [l3A p.x.v p.y.v p.w.v,l3A q.x.v q.y.v q.w.v] (.int .i64 (cmY p q)):=by
 have pX:=W4.bg hp.1
 have pY:=W4.bg hp.2.1
 have pW:=W4.bg hp.2.2
 have qX:=W4.bg hq.1
 have qY:=W4.bg hq.2.1
 have qW:=W4.bg hq.2.2
 have hcy : FC Tryz.prog 178 [numS (p.y.v * q.w.v),numS (q.y.v * p.w.v)] (.int .i64 (cmY p q)):=l1Cmp_fc (pY.mul qW) (qY.mul pW) (by omega) (by omega)
 refine .b Tryz.func183 16 (fun nx K hK=>?_) (hi:=by simp [idfL,idf,l3A,l3C,idf_Wd'])
 refine .q ?_
 refine .sq fun K2 hK2=>?_
 refine .d 11 ?_
 refine .k 4 (fun fs3 hfs3=>?_)
 refine .f (l1Mul_fc pY qW (by omega) (by omega)) hb182 ?_
 refine .k 4 (fun fs4 hfs4=>?_)
 refine .f (l1Mul_fc qY pW (by omega) (by omega)) hb182 ?_
 refine .f hcy hb178 ?_
 refine .r 11 (by simp only[ln,hfs3,hfs4];omega) ?_
 refine hK2 _ ?_
 refine .ret ?_
 exact hK _ _ _ _ trivial (Fin.m)
theorem l3Cmp_fc (p q : Pt) (hp : p.ok) (hq : q.ok) : FC Tryz.prog 130 [l3A p.x.v p.y.v p.w.v,l3A q.x.v q.y.v q.w.v] (.int .i64 (cmV p q)):=by
 refine .b Tryz.func130 15 (fun nx K hK=>?_) (hi:=by simp [idfL,idf,l3A,l3C,idf_Wd'])
 refine .q ?_
 refine .sq fun K2 hK2=>?_
 refine .region ?_
 refine .kf 2 (l3CmpX_fc p q hp hq) hb92 ?_
 refine .e ?_
 refine hK2 _ ?_
 refine .sq fun K3 hK3=>?_
 refine .q ?_
 refine .c (t:=cmX p q != 0) (fun h10=>?_) (fun h10=>?_) (by simp (disch:=first|omega|(simp only[ln];omega)) [bne])
 ·try simp only[dc]at h10
  have hne : cmX p q ≠ 0:=by simpa using h10
  refine .q ?_
  refine .ret ?_
  exact hK _ _ _ _ trivial ((Fin.m).cast (by rw [cmV,if_pos hne]))
 ·try simp only[dc]at h10
  have hne : ¬ cmX p q ≠ 0:=by simpa using h10
  refine .skip ?_
  refine hK3 _ ?_
  refine .sq fun K6 hK6=>?_
  refine .region ?_
  refine .kf 2 (l3CmpY_fc p q hp hq) hb183 ?_
  refine .e ?_
  refine hK6 _ ?_
  refine .ret ?_
  exact hK _ _ _ _ trivial ((Fin.m).cast (by rw [cmV,if_neg hne]))
set_option maxHeartbeats 2000000 in
theorem l3Between_fc (p q r : Pt) (hp : p.ok) (hq : q.ok) (hr : r.ok) : FC Tryz.prog 254 [l3A p.x.v p.y.v p.w.v,l3A q.x.v q.y.v q.w.v,l3A r.x.v r.y.v r.w.v] (.bool (btS p q r)):=by
 refine .b Tryz.func254 30 (fun nx K hK=>?_) (hi:=by simp [idfL,idf,l3A,l3C,idf_Wd'])
 refine .q ?_
 refine .sq fun K2 hK2=>?_
 refine .sq fun K3 hK3=>?_
 refine .region ?_
 refine .kf 2 (l3Cmp_fc p q hp hq) hb130 ?_
 refine .e ?_
 refine hK3 _ ?_
 refine .c (t:=decide (0 < cmV p q)) (fun h10=>?_) (fun h10=>?_)
 ·try simp only[dc]at h10
  have hsw : cmV p q > 0:=by simpa using h10
  refine .r ?_
  refine hK2 _ ?_
  refine .sq fun K4 hK4=>?_
  cases q1 : decide (cmV q r ≤ 0)
  ·refine .region ?_
   refine .kf 2 (l3Cmp_fc q r hq hr) hb130 ?_ (by simp (disch:=first|omega|(simp only[ln];omega)) [List.take_succ_cons,List.take_zero,q1]; rfl) (ha:=by simp (disch:=first|omega|(simp only[ln];omega)) [idf_Wd',q1])
   refine .e ?_ (by simp (disch:=first|omega|(simp only[ln];omega)) [q1]; rfl)
   refine hK4 _ ?_
   refine .ret ?_
   exact hK _ _ _ _ trivial ((Fin.m).cast (by rw [btS,if_pos hsw,q1]; rfl))
  ·cases q2 : decide (cmV r p ≤ 0)
   ·refine .region ?_
    refine .kf 2 (l3Cmp_fc q r hq hr) hb130 ?_ (by simp (disch:=first|omega|(simp only[ln];omega)) [List.take_succ_cons,List.take_zero,q1,q2]; rfl) (ha:=by simp (disch:=first|omega|(simp only[ln];omega)) [idf_Wd',q1,q2])
    refine .kf 4 (l3Cmp_fc r p hr hp) hb130 ?_ (by simp (disch:=first|omega|(simp only[ln];omega)) [List.take_succ_cons,List.take_zero,q1,q2]; rfl) (ha:=by simp (disch:=first|omega|(simp only[ln];omega)) [idf_Wd',q1,q2])
    refine .e ?_ (by simp (disch:=first|omega|(simp only[ln];omega)) [q1,q2]; rfl)
    refine hK4 _ ?_
    refine .ret ?_
    exact hK _ _ _ _ trivial ((Fin.m).cast (by rw [btS,if_pos hsw,q1,q2]; rfl))
   ·refine .region ?_
    refine .kf 2 (l3Cmp_fc q r hq hr) hb130 ?_ (by simp (disch:=first|omega|(simp only[ln];omega)) [List.take_succ_cons,List.take_zero,q1,q2]; rfl) (ha:=by simp (disch:=first|omega|(simp only[ln];omega)) [idf_Wd',q1,q2])
    refine .kf 4 (l3Cmp_fc r p hr hp) hb130 ?_ (by simp (disch:=first|omega|(simp only[ln];omega)) [List.take_succ_cons,List.take_zero,q1,q2]; rfl) (ha:=by simp (disch:=first|omega|(simp only[ln];omega)) [idf_Wd',q1,q2])
    refine .kf 6 (l3Orient_fc q p r hq hp hr) hb228 ?_ (by simp (disch:=first|omega|(simp only[ln];omega)) [List.take_succ_cons,List.take_zero,q1,q2]; rfl) (ha:=by simp (disch:=first|omega|(simp only[ln];omega)) [idf_Wd',q1,q2])
    refine .e ?_ (by simp (disch:=first|omega|(simp only[ln];omega)) [q1,q2]; rfl)
    refine hK4 _ ?_
    refine .ret ?_
    exact hK _ _ _ _ trivial ((Fin.mk (r:=.bool (sg3 (det q p r) == 0)) (by simp [aRes,aResL,aRes1])).cast (by rw [btS,if_pos hsw,q1,q2]; simp [beqd]))
 ·try simp only[dc]at h10
  have hsw : ¬ cmV p q > 0:=by simpa using h10
  refine .skip ?_
  refine hK2 _ ?_
  refine .sq fun K5 hK5=>?_
  cases q1 : decide (cmV p r ≤ 0)
  ·refine .region ?_
   refine .kf 2 (l3Cmp_fc p r hp hr) hb130 ?_ (by simp (disch:=first|omega|(simp only[ln];omega)) [List.take_succ_cons,List.take_zero,q1]; rfl) (ha:=by simp (disch:=first|omega|(simp only[ln];omega)) [idf_Wd',q1])
   refine .e ?_ (by simp (disch:=first|omega|(simp only[ln];omega)) [q1]; rfl)
   refine hK5 _ ?_
   refine .ret ?_
   exact hK _ _ _ _ trivial ((Fin.m).cast (by rw [btS,if_neg hsw,q1]; rfl))
  ·cases q2 : decide (cmV r q ≤ 0)
   ·refine .region ?_
    refine .kf 2 (l3Cmp_fc p r hp hr) hb130 ?_ (by simp (disch:=first|omega|(simp only[ln];omega)) [List.take_succ_cons,List.take_zero,q1,q2]; rfl) (ha:=by simp (disch:=first|omega|(simp only[ln];omega)) [idf_Wd',q1,q2])
    refine .kf 4 (l3Cmp_fc r q hr hq) hb130 ?_ (by simp (disch:=first|omega|(simp only[ln];omega)) [List.take_succ_cons,List.take_zero,q1,q2]; rfl) (ha:=by simp (disch:=first|omega|(simp only[ln];omega)) [idf_Wd',q1,q2])
    refine .e ?_ (by simp (disch:=first|omega|(simp only[ln];omega)) [q1,q2]; rfl)
    refine hK5 _ ?_
    refine .ret ?_
    exact hK _ _ _ _ trivial ((Fin.m).cast (by rw [btS,if_neg hsw,q1,q2]; rfl))
   ·refine .region ?_
    refine .kf 2 (l3Cmp_fc p r hp hr) hb130 ?_ (by simp (disch:=first|omega|(simp only[ln];omega)) [List.take_succ_cons,List.take_zero,q1,q2]; rfl) (ha:=by simp (disch:=first|omega|(simp only[ln];omega)) [idf_Wd',q1,q2])
    refine .kf 4 (l3Cmp_fc r q hr hq) hb130 ?_ (by simp (disch:=first|omega|(simp only[ln];omega)) [List.take_succ_cons,List.take_zero,q1,q2]; rfl) (ha:=by simp (disch:=first|omega|(simp only[ln];omega)) [idf_Wd',q1,q2])
    refine .kf 6 (l3Orient_fc p q r hp hq hr) hb228 ?_ (by simp (disch:=first|omega|(simp only[ln];omega)) [List.take_succ_cons,List.take_zero,q1,q2]; rfl) (ha:=by simp (disch:=first|omega|(simp only[ln];omega)) [idf_Wd',q1,q2])
    refine .e ?_ (by simp (disch:=first|omega|(simp only[ln];omega)) [q1,q2]; rfl)
    refine hK5 _ ?_
    refine .ret ?_
    exact hK _ _ _ _ trivial ((Fin.mk (r:=.bool (sg3 (det p q r) == 0)) (by simp [aRes,aResL,aRes1])).cast (by rw [btS,if_neg hsw,q1,q2]; simp [beqd]))
end

end Go.Proofs.YtaibemhdfhchfaaGreat

/- Walks: fractions of the program. -/
namespace Go.Proofs.YtaibemhdfhchfaaGreat
open Go Go.RowKit
set_option linter.unusedSimpArgs false
set_option linter.unusedVariables false
set_option maxRecDepth 100000
attribute [local simp] szT4 byT4 agT4 unT4 zoT4 szT25 byT25 agT25 unT25 zoT25 szT108 byT108 agT108 elT108 unT108 zoT108 szT110 byT110 agT110 flT110 fdT110_0 fdT110_1 zoT110 szT118 byT118 agT118 flT118 fdT118_0 fdT118_1 zoT118

section
attribute [local simp] idf_numI cells_numI numI_fold
set_option maxHeartbeats 2000000 in
theorem over_fc {j : Nat} (a b : Int) (hb0 : b ≠ 0) (ha : Bg j a) (hb : Bg j b) (hj : j ≤ 16777216) : FC Tryz.prog 248 [numI a,numI b] (.tup [numI (a / b),numI (a % b)]):=by
 have hD:=divWords_fc a.natAbs b.natAbs (by omega) (by have:=ha.len; rw [mag_abs]; omega) (by have:=hb.len; rw [mag_abs]; omega)
 rw [mag_abs,mag_abs] at hD
 have eu:=eu_lem a b hb0
 generalize hq : ((a.natAbs / b.natAbs : Nat) : Int) = q0 at *
 generalize hr : ((a.natAbs % b.natAbs : Nat) : Int) = r0 at *
 have q0n : 0 ≤ q0:=by rw [← hq]; exact Int.natCast_nonneg _
 have r0n : 0 ≤ r0:=by rw [← hr]; exact Int.natCast_nonneg _
 have bq : Bg j q0:=by
   rw [← hq]; unfold Bg at *; rw [Int.natAbs_natCast]; have:=Nat.div_le_self a.natAbs b.natAbs; omega
 have br : Bg j r0:=by
   rw [← hr]; unfold Bg at *; rw [Int.natAbs_natCast]; have:=Nat.mod_le a.natAbs b.natAbs; omega
 have bqs : ∀ s,Bg j (sg s q0):=fun s=>by cases s <;> simp only [sg_true,sg_false]; exact bq; exact bq.neg
 have brs : ∀ s,Bg j (sg s r0):=fun s=>by cases s <;> simp only [sg_true,sg_false]; exact br; exact br.neg
 have lq:=bq.len
 have lr:=br.len
 have hT1:=made_fc (decide (a < 0) != decide (b < 0)) (mag q0) (by omega) (mag_dig _)
 rw [mag_val,Int.natAbs_of_nonneg q0n] at hT1
 have hT2:=made_fc (decide (a < 0)) (mag r0) (by omega) (mag_dig _)
 rw [mag_val,Int.natAbs_of_nonneg r0n] at hT2
 obtain ⟨S,hS⟩ : ∃ S,(decide (a < 0) != decide (b < 0)) = S:=⟨_,rfl⟩
 have hS2 : (decide (a < 0) == decide (b < 0)) = !S:=by rw [← hS]; cases decide (a < 0) <;> cases decide (b < 0) <;> rfl
 rw [hS] at eu hT1
 refine .b Tryz.func248 45 (fun nx K hK=>?_)
 refine .q ?_
 refine .sq fun K2 hK2=>?_
 refine .region ?_
 refine .kf 4 hD hb238 ?_
 refine .e ?_
 refine hK2 _ ?_
 refine .sq fun K3 hK3=>?_
 refine .old fun hold=>?_
 refine .d 13 ?_
 refine .k 6 (fun fs4 hfs4=>?_) (by simp (disch:=first|omega|(simp only[ln];omega)) [runDf.eq_def,runF1,runF2,stepF.eq_def,updo.eq_def,hupo.eq_def,opSto1.eq_def,List.take_succ_cons,List.take_zero,hS2]; rfl)
 refine .f hT1 hb167 ?_ (ha:=by simp (disch:=first|omega|(simp only[ln];omega)) [idf_Wd',hS2])
 refine DP.runF1q (by simp (disch:=first|omega|(simp only[ln];omega)) [runDf.eq_def,runF1,runF2,stepF.eq_def,updo.eq_def,hupo.eq_def,opSto1.eq_def,hS2]; rfl) fun fq5 hfq5=>?_
 simp [qids,asksB,Op.operands,topId] at hfq5
 simp only [updo]
 refine DP.runF1q (by simp (disch:=first|omega|(simp only[ln];omega)) [runDf.eq_def,runF1,runF2,stepF.eq_def,updo.eq_def,hupo.eq_def,opSto1.eq_def,hS2]; rfl) fun fq6 hfq6=>?_
 simp [qids,asksB,Op.operands,topId] at hfq6
 simp only [updo]
 refine DP.runF1q (by simp (disch:=first|omega|(simp only[ln];omega)) [runDf.eq_def,runF1,runF2,stepF.eq_def,updo.eq_def,hupo.eq_def,opSto1.eq_def,hS2]; rfl) fun fq7 hfq7=>?_
 simp [qids,asksB,Op.operands,topId] at hfq7
 simp only [updo]
 refine .f hT2 hb167 ?_ (ha:=by simp (disch:=first|omega|(simp only[ln];omega)) [idf_Wd',hS2])
 refine .k 2 (fun fs8 hfs8=>?_) (by simp (disch:=first|omega|(simp only[ln];omega)) [runDf.eq_def,runF1,runF2,stepF.eq_def,updo.eq_def,hupo.eq_def,opSto1.eq_def,List.take_succ_cons,List.take_zero,hS2]; rfl)
 refine DQ.sto1 (m:=13) [7,8,9] _ (by simp (disch:=first|omega|(simp only[ln];omega)) [runDf.eq_def,runF1,runF2,stepF.eq_def,updo.eq_def,hupo.eq_def,opSto1.eq_def,hS2]; rfl) rfl (by simp only[ln,hfs4,hfs8];omega) (by kernel_rfl) (by intro k f hk hex; simp only [List.mem_cons,List.not_mem_nil,or_false] at hex; rcases hex with rfl | rfl | rfl <;> (simp [List.getElem?_append,hfs4,hfs8] at hk; subst hk; refine ⟨?_,by first | omega | (simp; done) | (simp; omega)⟩; simp [qids,asksB,Op.operands,Call.operands,topId,numS,numI,Wd,hfq5,hfq6,hfq7]; try omega)) ?_
 try simp only []
 refine DQ.sto1 (m:=13) [] _ (by simp (disch:=first|omega|(simp only[ln];omega)) [runDf.eq_def,runF1,runF2,stepF.eq_def,updo.eq_def,hupo.eq_def,opSto1.eq_def,hS2]; rfl) rfl (by simp only[ln,hfs4,hfs8];omega) (by kernel_rfl) (by intro k f hk hex; simp only [List.not_mem_nil] at hex) ?_
 try simp only []
 refine hK3 _ ?_
 refine .sq fun K9 hK9=>?_
 refine .q ?_
 refine .c (t:=decide (sg (decide (a < 0)) r0 < 0)) (fun h30=>?_) (fun h30=>?_)
 ·try simp only[dc]at h30
  refine .sq fun K11 hK11=>?_
  refine .d 4 ?_
  refine .k 2 (fun fs12 hfs12=>?_)
  refine .f (abs_fc b) hb281 ?_
  refine .f (plus_fc (brs (decide (a < 0))) hb.abs (by omega) (by omega)) hb83 ?_
  refine .r 4 (by simp only[ln,hfs12];omega) ?_
  refine hK11 _ ?_
  refine .q ?_
  refine .c (t:=decide (b < 0)) (fun h36=>?_) (fun h36=>?_)
  ·try simp only[dc]at h36
   have e:=eu.2.1 h30 h36
   refine .d 3 ?_
   refine .k 1 (fun fs14 hfs14=>?_)
   refine .f (whole_fc 1 (by omega) (by omega)) hb79 ?_
   refine .f (plus_fc (bqs S) (Bg.i64 (n:=1) (by omega) (by omega)) (by omega) (by omega)) hb83 ?_
   refine .r 3 (by simp only[ln,hfs14];omega) ?_
   refine hK9 _ ?_
   refine .sq fun K15 hK15=>?_
   refine .old fun hold=>?_
   refine .d 2 ?_
   refine .k 1 (fun fs16 hfs16=>?_)
   refine DP.runF1q (by simp (disch:=first|omega|(simp only[ln];omega)) [runDf.eq_def,runF1,runF2,stepF.eq_def,updo.eq_def,hupo.eq_def,opSto1.eq_def]; rfl) fun fq17 hfq17=>?_
   simp [qids,asksB,Op.operands,topId] at hfq17
   simp only [updo]
   refine DQ.sto1 (m:=2) [1] _ (by simp (disch:=first|omega|(simp only[ln];omega)) [runDf.eq_def,runF1,runF2,stepF.eq_def,updo.eq_def,hupo.eq_def,opSto1.eq_def]; rfl) rfl (by simp only[ln,hfs16];omega) (by kernel_rfl) (by intro k f hk hex; simp only [List.mem_cons,List.not_mem_nil,or_false] at hex; rcases hex with rfl <;> (simp [List.getElem?_append,hfs16] at hk; subst hk; refine ⟨?_,by first | omega | (simp; done) | (simp; omega)⟩; simp [qids,asksB,Op.operands,Call.operands,topId,numS,numI,Wd,hfq17]; try omega)) ?_
   try simp only []
   refine DQ.sto1 (m:=2) [] _ (by simp (disch:=first|omega|(simp only[ln];omega)) [runDf.eq_def,runF1,runF2,stepF.eq_def,updo.eq_def,hupo.eq_def,opSto1.eq_def]; rfl) rfl (by simp only[ln,hfs16];omega) (by kernel_rfl) (by intro k f hk hex; simp only [List.not_mem_nil] at hex) ?_
   try simp only []
   refine hK15 _ ?_
   refine .ret ?_
   exact hK _ _ _ _ trivial ((Fin.m).cast (by rw [← e.1,← e.2,show ((b.natAbs : Nat) : Int) = -b by omega,← Int.sub_eq_add_neg]))
  ·try simp only[dc]at h36
   have e:=eu.2.2 h30 h36
   refine .d 3 ?_
   refine .k 1 (fun fs18 hfs18=>?_)
   refine .f (whole_fc 1 (by omega) (by omega)) hb79 ?_
   refine .f (less_fc (bqs S) (Bg.i64 (n:=1) (by omega) (by omega)) (by omega) (by omega)) hb82 ?_
   refine .r 3 (by simp only[ln,hfs18];omega) ?_
   refine hK9 _ ?_
   refine .sq fun K19 hK19=>?_
   refine .old fun hold=>?_
   refine .d 2 ?_
   refine .k 1 (fun fs20 hfs20=>?_)
   refine DP.runF1q (by simp (disch:=first|omega|(simp only[ln];omega)) [runDf.eq_def,runF1,runF2,stepF.eq_def,updo.eq_def,hupo.eq_def,opSto1.eq_def]; rfl) fun fq21 hfq21=>?_
   simp [qids,asksB,Op.operands,topId] at hfq21
   simp only [updo]
   refine DQ.sto1 (m:=2) [1] _ (by simp (disch:=first|omega|(simp only[ln];omega)) [runDf.eq_def,runF1,runF2,stepF.eq_def,updo.eq_def,hupo.eq_def,opSto1.eq_def]; rfl) rfl (by simp only[ln,hfs20];omega) (by kernel_rfl) (by intro k f hk hex; simp only [List.mem_cons,List.not_mem_nil,or_false] at hex; rcases hex with rfl <;> (simp [List.getElem?_append,hfs20] at hk; subst hk; refine ⟨?_,by first | omega | (simp; done) | (simp; omega)⟩; simp [qids,asksB,Op.operands,Call.operands,topId,numS,numI,Wd,hfq21]; try omega)) ?_
   try simp only []
   refine DQ.sto1 (m:=2) [] _ (by simp (disch:=first|omega|(simp only[ln];omega)) [runDf.eq_def,runF1,runF2,stepF.eq_def,updo.eq_def,hupo.eq_def,opSto1.eq_def]; rfl) rfl (by simp only[ln,hfs20];omega) (by kernel_rfl) (by intro k f hk hex; simp only [List.not_mem_nil] at hex) ?_
   try simp only []
   refine hK19 _ ?_
   refine .ret ?_
   exact hK _ _ _ _ trivial ((Fin.m).cast (by rw [← e.1,← e.2,show ((b.natAbs : Nat) : Int) = b by omega]))
 ·try simp only[dc]at h30
  have e:=eu.1 h30
  refine .skip ?_
  refine hK9 _ ?_
  refine .sq fun K22 hK22=>?_
  refine .old fun hold=>?_
  refine .d 2 ?_
  refine .k 1 (fun fs23 hfs23=>?_)
  refine DP.runF1q (by simp (disch:=first|omega|(simp only[ln];omega)) [runDf.eq_def,runF1,runF2,stepF.eq_def,updo.eq_def,hupo.eq_def,opSto1.eq_def]; rfl) fun fq24 hfq24=>?_
  simp [qids,asksB,Op.operands,topId] at hfq24
  simp only [updo]
  refine DQ.sto1 (m:=2) [1] _ (by simp (disch:=first|omega|(simp only[ln];omega)) [runDf.eq_def,runF1,runF2,stepF.eq_def,updo.eq_def,hupo.eq_def,opSto1.eq_def]; rfl) rfl (by simp only[ln,hfs23];omega) (by kernel_rfl) (by intro k f hk hex; simp only [List.mem_cons,List.not_mem_nil,or_false] at hex; rcases hex with rfl <;> (simp [List.getElem?_append,hfs23] at hk; subst hk; refine ⟨?_,by first | omega | (simp; done) | (simp; omega)⟩; simp [qids,asksB,Op.operands,Call.operands,topId,numS,numI,Wd,hfq24]; try omega)) ?_
  try simp only []
  refine DQ.sto1 (m:=2) [] _ (by simp (disch:=first|omega|(simp only[ln];omega)) [runDf.eq_def,runF1,runF2,stepF.eq_def,updo.eq_def,hupo.eq_def,opSto1.eq_def]; rfl) rfl (by simp only[ln,hfs23];omega) (by kernel_rfl) (by intro k f hk hex; simp only [List.not_mem_nil] at hex) ?_
  try simp only []
  refine hK22 _ ?_
  refine .ret ?_
  exact hK _ _ _ _ trivial ((Fin.m).cast (by rw [e.1,e.2]))
end
section
attribute [local simp] idf_numI cells_numI numI_fold rtA rtC
end

end Go.Proofs.YtaibemhdfhchfaaGreat
