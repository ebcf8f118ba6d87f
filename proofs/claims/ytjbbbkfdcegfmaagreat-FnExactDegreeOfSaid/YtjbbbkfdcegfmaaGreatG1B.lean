/- Walks: halves around a point, of the reference. -/
import Derived.Test.YtjbbbkfdcegfmaaGreatG1A

namespace Go.Proofs.YtjbbbkfdcegfmaaGreat
open Go Go.RowKit
set_option linter.unusedSimpArgs false
set_option linter.unusedVariables false
set_option maxRecDepth 100000
attribute [local simp] szT2 byT2 agT2 unT2 zoT2 szT3 byT3 agT3 unT3 zoT3 szT4 byT4 agT4 unT4 zoT4 szT24 byT24 agT24 elT24 unT24 zoT24 szT38 byT38 agT38 elT38 unT38 zoT38 szT76 byT76 agT76 elT76 unT76 zoT76 szT78 byT78 agT78 flT78 fdT78_0 fdT78_1 zoT78 szT81 byT81 agT81 flT81 fdT81_0 fdT81_1 fdT81_2 zoT81 szT105 byT105 agT105 flT105 fdT105_0 fdT105_1 zoT105 szT107 byT107 agT107 flT107 fdT107_0 fdT107_1 fdT107_2 zoT107 srT24 ixT24 lnT24 srT38 srT76

def ni (l : List Nat) : List Int:=l.map fun x : Nat=>(x : Int)
theorem ni_len (l : List Nat) : (ni l).length = l.length:=List.length_map _
theorem ni_gt {l : List Nat} {k : Nat} (h : k < l.length) : gt (ni l) k = ((l.getD k 0 : Nat) : Int):=by
  unfold gt ni; rw [List.getElem?_map,List.getD_eq_getElem?_getD,List.getElem?_eq_getElem h]; rfl
theorem ni_ins (g : Nat → Nat → Bool) (A : List Nat) (h k : Nat) (e : insK g h A = k) : (ni A).take k ++ [(h : Int)] ++ (ni A).drop k = ni (insA g A h):=by
  unfold insA ni; rw [e]; simp [List.map_take,List.map_drop]
theorem arN_mem {L : List Sg} {v n x : Nat} (h : x ∈ arN L v n) : x < n:=(bkt_mem.1 ((arN_perm L v n).mem_iff.1 h)).1
theorem arN_len (L : List Sg) (v n : Nat) : (arN L v n).length ≤ n:=by
  rw [(arN_perm L v n).length_eq]
  exact Nat.le_trans (List.length_filter_le _ _) (by simp)
theorem insK_q {g : Nat → Nat → Bool} {A : List Nat} {h k : Nat} (hj : ∀ j,j < k → g (A.getD j 0) h = true) (hk : k < A.length) (hn : g (A.getD k 0) h = false) : insK g h A = k :=
  insK_at (x:=A.getD k 0) (fun j hjk=>⟨A.getD j 0,by simp [List.getElem?_eq_getElem (show j < A.length by omega)],hj j hjk⟩) (by simp [hk]) hn
theorem insK_z {g : Nat → Nat → Bool} {A : List Nat} {h : Nat} (hj : ∀ j,j < A.length → g (A.getD j 0) h = true) : insK g h A = A.length :=
  insK_end fun j hjk=>⟨A.getD j 0,by simp [hjk],hj j hjk⟩
theorem bneI (a b : Int) : (a != b) = decide (a ≠ b):=by rw [Bool.eq_iff_iff]; simp
theorem bneB (a b : Bool) : (a != b) = decide (a ≠ b):=by cases a <;> cases b <;> rfl

set_option maxHeartbeats 1000000 in
theorem l9Ends_fc (L : List Sg) (h : Nat) (hh : h < 2 * (edL L).length) (hb : (edL L).length ≤ 67200) : FC Tryz.prog 112 [.agg [.isl ((hitP L).map cellS),.isl ((edL L).map edC)],.int .i64 (h : Int)] (.tup [.int .i64 (hfr (edL L) h),.int .i64 (hto (edL L) h)]):=by
 have hi' : h / 2 < (edL L).length:=by omega
 have hat:=edC_at hi'
 have hae : ∀ q : h / 2 < ((edL L).map edC).length,((edL L).map edC)[h / 2] = [.int .i64 (edq (edL L) (h / 2)).1.1,.int .i64 (edq (edL L) (h / 2)).1.2,Wd .i64 (edq (edL L) (h / 2)).2]:=fun q=>by rw [List.getElem?_eq_getElem q] at hat; simpa using hat
 have hml : ((edL L).map edC).length = (edL L).length:=List.length_map _
 have hq0 : ¬ (h : Int) / 2 < 0:=by omega
 have tn : ((h : Int) / 2).toNat = h / 2:=by omega
 have qd:=hdiv2 h
 have qm:=hmod2 h
 refine .b Tryz.func112 24 (fun nx K hK=>?_) (hi:=by simp only [idfL,idf,edC_idfL,ptG_idfL,ptS_idfL,sg_idfL,and_self,and_true,true_and]; try trivial)
 refine .q ?_
 refine .q ?_ (by simp (disch:=first|exact zd|fail) [if_pos,hat,hae,hi',hml,tn,hq0,qd,qm]; rfl)
 refine .sq fun K3 hK3=>?_
 refine .q ?_ (by simp (disch:=first|exact zd|fail) [qm]; rfl)
 refine .c (t:=decide (h % 2 = 0)) (fun h15=>?_) (fun h15=>?_) (by simp (disch:=first|exact zd|fail) [beq0])
 ·try simp only[dc]at h15
  refine .sq fun K5 hK5=>?_
  
  refine .df 4 ?_
  refine hK5 _ ?_
  refine .ret ?_
  exact hK _ _ _ _ trivial ((Fin.m).cast (by unfold hfr hto; rw [if_pos h15,if_pos h15]))
 ·try simp only[dc]at h15
  refine .skip ?_
  refine hK3 _ ?_
  refine .sq fun K6 hK6=>?_
  
  refine .df 4 ?_
  refine hK6 _ ?_
  refine .ret ?_
  exact hK _ _ _ _ trivial ((Fin.m).cast (by unfold hfr hto; rw [if_neg h15,if_neg h15]))
section
attribute [local simp] idf_numS cells_numS numS_fold idf_numI cells_numI numI_fold l3A l3C
set_option maxHeartbeats 8000000 in
theorem l9Around_own (L : List Sg) (v : Nat) (hv : v < (hitP L).length) (z1 : L.length ≤ 40) (nx : Nat) : ACall Tryz.prog 66 [.agg [.isl ((hitP L).map cellS),.isl ((edL L).map edC)],.int .i64 (v : Int)] (fun _=>none) nx (own1 nx 1 (wd .i64 (ni (arV L v))) (fun id=>.osl id 0 (arV L v).length)):=by
 have hpb : (hitP L).length ≤ 1680:=by rw [hitP_len]; exact ded_b z1 (Nat.le_refl _)
 obtain ⟨eb1,eb2⟩:=edL_b z1 hpb
 refine .b Tryz.func66 89 fun K hK=>?_
 refine .q ?_
 refine .q ?_
 refine .sq fun K3 hK3=>?_
 refine .q ?_
 refine .block ?_
 
 refine .loop (fun N s=>∃ h : Nat,∃ A : List Nat,∃ io : Nat,∃ ip : Nat,N = (2 * (edL L).length) - h ∧ h ≤ (2 * (edL L).length) ∧ (A = arN L v h) ∧ (nx ≤ io ∧ ip < io) ∧ s.env 1 = .int .i64 (v : Int) ∧ s.env 2 = .ptr ip 0 0 ∧ s.env 5 = .osl io 0 A.length ∧ s.env 6 = .int .i64 (h : Int) ∧ s.heap ip = some (2,[[.isl ((hitP L).map cellS),.isl ((edL L).map edC)]]) ∧ ip < s.nx ∧ s.heap io = some (1,wd .i64 (ni A)) ∧ io < s.nx ∧ s.nt = 89) ((2 * (edL L).length)) (by refine ⟨0,[],(nx + 1),nx,by omega,by omega,rfl,by omega,?_,?_,?_,?_,?_,?_,?_,?_,rfl⟩ <;> first|(simp (disch:=omega) [wd,ni];done)|omega|(simp;done)|(simp;omega)) ?_
 rintro N ⟨e,H,mm,nt⟩ ⟨h,A,io,ip,rfl,hh,hA,hio,g1,g2,g5,g6,Hp,xp,Ho,xo,rfl⟩
 simp only [] at g1 g2 g5 g6 Hp xp Ho xo
 refine .sq fun K5 hK5=>?_
 refine .q ?_ (by simp (disch:=first|exact zd|fail) [g2,g6,Hp,List.length_map]; rfl)
 refine .c (fun h20=>?_) (fun h20=>?_)
 ·try simp only[dc]at h20
  have hh' : h < 2 * (edL L).length:=by omega
  obtain ⟨n1,n2,n3,n4,n5,n6⟩:=hf_nat hh'
  have hAl : A.length ≤ h:=by rw [hA]; exact arN_len L v h
  have hAm : ∀ x ∈ A,x < h:=fun x hx=>by rw [hA] at hx; exact arN_mem hx
  obtain ⟨fh,hfh⟩ : ∃ x,x = hfr (edL L) h:=⟨_,rfl⟩
  have fcE:=l9Ends_fc L h hh' eb1
  rw [n2,← hfh] at fcE
  refine .skip ?_
  refine hK5 _ ?_
  refine .sq fun K7 hK7=>?_
  refine .block ?_
  refine .sq fun K8 hK8=>?_
  refine .region ?_
  refine .kf 2 fcE hb112 ?_ (by simp (disch:=first|exact zd|fail) [List.take_succ_cons,List.take_zero,g2,g6,Hp]; rfl) (ha:=by simp (disch:=first|exact zd|fail) [idf_Wd',g2,g6,Hp])
  refine .e ?_ (by simp (disch:=first|exact zd|fail) [g2,g6,Hp]; rfl)
  refine hK8 _ ?_
  refine .sq fun K9 hK9=>?_
  refine .q ?_ (by simp (disch:=first|exact zd|fail) [g1]; rfl)
  refine .c (t:=decide (fh ≠ (v : Int))) (fun h31=>?_) (fun h31=>?_) (by simp (disch:=first|exact zd|fail) [bneI])
  ·try simp only[dc]at h31
   have hA' : A = arN L v (h + 1):=by rw [hA]; exact (if_neg (by omega)).symm
   refine .exit ?_
   refine hK7 _ ?_
   refine .r ?_ (by simp (disch:=first|exact zd|fail) [g6]; rfl)
   refine ⟨(2 * (edL L).length) - (h + 1),by omega,h + 1,A,io,ip,rfl,by omega,hA',hio,?_,?_,?_,?_,?_,?_,?_,?_,rfl⟩ <;> first|(simp (disch:=omega) [g1,g2,g5,g6,Hp,Ho];done)|omega|(simp;done)|(simp;omega)
  ·try simp only[dc]at h31
   have hfv : fh = v:=by omega
   subst hfv
   refine .skip ?_
   refine hK9 _ ?_
   refine .q ?_
   refine .sq fun K12 hK12=>?_
   have J12 : ∀ s : St,(∃ k : Nat,(insK (kG L v) h A = k) ∧ s.env 1 = .int .i64 (v : Int) ∧ s.env 2 = .ptr ip 0 0 ∧ s.env 5 = .osl io 0 A.length ∧ s.env 6 = .int .i64 (h : Int) ∧ s.env 9 = .int .i64 (k : Int) ∧ s.heap ip = some (2,[[.isl ((hitP L).map cellS),.isl ((edL L).map edC)]]) ∧ ip < s.nx ∧ s.heap io = some (1,wd .i64 (ni A)) ∧ io < s.nx ∧ s.nt = 89) → K12 s:=by
    clear g1 g2 g5 g6 Hp xp Ho xo
    rintro ⟨e0,H,mm,nt⟩ ⟨k,hk,g1,g2,g5,g6,g9,Hp,xp,Ho,xo,rfl⟩
    simp only [] at g1 g2 g5 g6 g9 Hp xp Ho xo
    refine hK12 _ ?_
    refine .sq fun K13 hK13=>?_
    have hkl : k ≤ A.length:=by rw [← hk]; exact insK_le _ _ _
    obtain ⟨n,hn⟩ : ∃ n,n = A.length:=⟨_,rfl⟩
    rw [← hn] at g5 hkl
    have hnl : (ni A).length = n:=by rw [ni_len,hn]
    have hl1 : ((ni A).take k).length = k:=by rw [List.length_take,hnl]; omega
    have ht1 : List.take k (List.take k (ni A)) = List.take k (ni A):=by rw [List.take_take,Nat.min_self]
    have ht2 : List.take (k + 1) (List.take k (ni A) ++ [(h : Int)]) = List.take k (ni A) ++ [(h : Int)]:=List.take_of_length_le (by rw [List.length_append,hl1]; exact Nat.le_refl _)
    have hl2 : (List.take k (ni A) ++ [(h : Int)]).length = k + 1:=by rw [List.length_append,hl1]; rfl
    have hd0 : (List.drop k (ni A)).length = n - k:=by rw [List.length_drop,hnl]
    have hd1 : List.take (n - k) (List.drop k (ni A)) = List.drop k (ni A):=List.take_of_length_le (by rw [hd0]; exact Nat.le_refl _)
    have hin:=ni_ins (kG L v) A h k hk
    have hin2:=hin
    simp only [List.append_assoc,List.cons_append,List.nil_append] at hin2
    have hA' : insA (kG L v) A h = arN L v (h + 1):=by rw [hA]; exact (if_pos (by omega : hfr (edL L) h = v)).symm
    have hlen : (insA (kG L v) A h).length = n + 1:=by rw [insA_len,hn]
    have hnh : n ≤ 134400:=by omega
    have hs1 : k + 1 + (n - k) = n + 1:=by omega
    refine .region ?_
    refine .k 4 ?_ (by simp (disch:=first|exact zd|fail) [List.take_succ_cons,List.take_zero,if_pos,g1,g2,g5,g6,g9,Hp,Ho,hnl,hl1,ht1,ht2,hl2,hd0,hd1,hkl]; rfl)
    refine AOPS.opapp (by simp (disch:=first|exact zd|fail) [if_pos,wd_append,wd_take,wd_drop,List.nil_append,g1,g2,g5,g6,g9,Hp,Ho,hnl,hl1,ht1,ht2,hl2,hd0,hd1,hkl]; first | rfl | exact ⟨rfl,rfl⟩ | exact ⟨rfl,rfl,rfl⟩) (by simp) (by simp) ?_
    simp only [puts_some,hdrop]
    refine .e ?_ (by simp (disch:=first|exact zd|fail) [if_pos,g1,g2,g5,g6,g9,Hp,Ho,hnl,hl1,ht1,ht2,hl2,hd0,hd1,hkl]; rfl)
    refine hK13 _ ?_
    refine .sq fun K14 hK14=>?_
    refine .region ?_
    refine .k 3 ?_ (by simp (disch:=first|exact zd|fail) [List.take_succ_cons,List.take_zero,g1,g2,g5,g6,g9,Hp,Ho,hnl,hl1,ht1,ht2,hl2,hd0,hd1,hkl]; rfl)
    refine AOPS.opapp (by simp (disch:=first|exact zd|fail) [if_pos,wd_append,wd_take,wd_drop,List.nil_append,g1,g2,g5,g6,g9,Hp,Ho,hnl,hl1,ht1,ht2,hl2,hd0,hd1,hkl]; first | rfl | exact ⟨rfl,rfl⟩ | exact ⟨rfl,rfl,rfl⟩) (by simp) (by simp) ?_
    simp only [puts_some,hdrop]
    refine .e ?_ (by simp (disch:=first|exact zd|fail) [g1,g2,g5,g6,g9,Hp,Ho,hnl,hl1,ht1,ht2,hl2,hd0,hd1,hkl]; rfl)
    refine hK14 _ ?_
    refine .region ?_
    refine .k 4 ?_ (by simp (disch:=first|exact zd|fail) [List.take_succ_cons,List.take_zero,if_pos,g1,g2,g5,g6,g9,Hp,Ho,hnl,hl1,ht1,ht2,hl2,hd0,hd1,hkl]; rfl)
    refine AOPS.opapp (by simp (disch:=first|exact zd|fail) [if_pos,wd_append,wd_take,wd_drop,List.nil_append,g1,g2,g5,g6,g9,Hp,Ho,hnl,hl1,ht1,ht2,hl2,hd0,hd1,hkl]; first | rfl | exact ⟨rfl,rfl⟩ | exact ⟨rfl,rfl,rfl⟩) (by simp) (by simp) ?_
    simp only [puts_some,hdrop]
    refine .e ?_ (by simp (disch:=first|exact zd|fail) [if_pos,g1,g2,g5,g6,g9,Hp,Ho,hnl,hl1,ht1,ht2,hl2,hd0,hd1,hkl]; rfl)
    refine hK7 _ ?_
    refine .r ?_ (by simp (disch:=first|exact zd|fail) [g6]; rfl)
    refine ⟨(2 * (edL L).length) - (h + 1),by omega,h + 1,insA (kG L v) A h,(mm + 1 + 1 + 1 + 1),ip,rfl,by omega,hA',by first|omega|(simp;omega),?_,?_,?_,?_,?_,?_,?_,?_,rfl⟩ <;> first|(simp (disch:=omega) [g1,g2,g5,g6,g9,Hp,Ho,hin,hin2,hlen,hs1,hl1,hl2,hd0,hnl];done)|omega|(simp;done)|(simp;omega)
   refine .block ?_
   
   refine .loop (fun N s=>∃ k : Nat,N = A.length - k ∧ k ≤ A.length ∧ (∀ j,j < k → kG L v (A.getD j 0) h = true) ∧ s.env 1 = .int .i64 (v : Int) ∧ s.env 2 = .ptr ip 0 0 ∧ s.env 5 = .osl io 0 A.length ∧ s.env 6 = .int .i64 (h : Int) ∧ s.env 7 = .int .i64 (v : Int) ∧ s.env 8 = .int .i64 (htn L h : Int) ∧ s.env 9 = .int .i64 (k : Int) ∧ s.heap ip = some (2,[[.isl ((hitP L).map cellS),.isl ((edL L).map edC)]]) ∧ ip < s.nx ∧ s.heap io = some (1,wd .i64 (ni A)) ∧ io < s.nx ∧ s.nt = 89) (A.length) (by refine ⟨0,by omega,by omega,fun j h=>by omega,?_,?_,?_,?_,?_,?_,?_,?_,?_,?_,?_,rfl⟩ <;> first|(simp (disch:=omega) [g1,g2,g5,g6,Hp,Ho];done)|omega|(simp;done)|(simp;omega)) ?_
   clear g1 g2 g5 g6 Hp xp Ho xo
   rintro N ⟨e,H,mm,nt⟩ ⟨k,rfl,hk,hj,g1,g2,g5,g6,g7,g8,g9,Hp,xp,Ho,xo,rfl⟩
   simp only [] at g1 g2 g5 g6 g7 g8 g9 Hp xp Ho xo
   refine .sq fun K15 hK15=>?_
   refine .q ?_ (by simp (disch:=first|exact zd|fail) [g5,g9,Ho,ni_len,wd_len]; rfl)
   refine .c (fun h35=>?_) (fun h35=>?_)
   ·try simp only[dc]at h35
    have hk' : k < A.length:=by omega
    obtain ⟨o,ho⟩ : ∃ o,o = A.getD k 0:=⟨_,rfl⟩
    have hgo : gt (ni A) k = (o : Int):=by rw [ho]; exact ni_gt hk'
    have hol : o < h:=hAm o (by rw [ho,List.getD_eq_getElem?_getD,List.getElem?_eq_getElem hk']; exact List.getElem_mem hk')
    have hoo : o < 2 * (edL L).length:=by omega
    obtain ⟨o1,o2,o3,o4,o5,o6⟩:=hf_nat hoo
    have fcO:=l9Ends_fc L o hoo eb1
    rw [o1,o2] at fcO
    have hnl:=ni_len A
    have hatk : (wd .i64 (ni A))[k]? = some [.int .i64 (o : Int)]:=by rw [wd_at (by rw [hnl]; exact hk'),hgo]
    have haek : ∀ q : k < (wd .i64 (ni A)).length,(wd .i64 (ni A))[k] = [.int .i64 (o : Int)]:=fun q=>by rw [List.getElem?_eq_getElem q] at hatk; simpa using hatk
    have kGe : kG L v o h = if decide (hto (edL L) o > v) ≠ decide (hto (edL L) h > v) then decide (hto (edL L) o > v) else decide (0 ≤ sg3 (det (gpq L v).1 (gpq L (htn L o)).1 (gpq L (htn L h)).1)):=rfl
    rw [o2,n2] at kGe
    have hjs : kG L v o h = true → ∀ j,j < k + 1 → kG L v (A.getD j 0) h = true:=fun hk j hj2=>by
      rcases Nat.lt_or_ge j k with q | q
      · exact hj j q
      · rw [show j = k by omega,← ho]; exact hk
    have hjq : kG L v o h = false → insK (kG L v) h A = k:=fun hk=>insK_q hj hk' (by rw [← ho]; exact hk)
    refine .skip ?_
    refine hK15 _ ?_
    refine .block ?_
    refine .sq fun K17 hK17=>?_
    refine .d 9 ?_
    refine .k 5 (fun fs18 hfs18=>?_) (by simp (disch:=first|exact zd|fail) [List.take_succ_cons,List.take_zero,if_pos,g2,g5,g9,Hp,Ho,hatk,haek,hk',hnl,wd_len]; rfl)
    refine .f fcO hb112 ?_ (ha:=by simp (disch:=first|exact zd|fail) [idf_Wd',if_pos,g2,g5,g9,Hp,Ho,hatk,haek,hk',hnl,wd_len])
    refine .k 3 (fun fs19 hfs19=>?_) (by simp (disch:=first|exact zd|fail) [List.take_succ_cons,List.take_zero,if_pos,g2,g5,g9,Hp,Ho,hatk,haek,hk',hnl,wd_len]; rfl)
    refine .r 9 (by simp only[ln,hfs18,hfs19];omega) ?_ (by simp (disch:=first|exact zd|fail) [if_pos,g2,g5,g9,Hp,Ho,hatk,haek,hk',hnl,wd_len]; rfl)
    refine hK17 _ ?_
    refine .q ?_ (by simp (disch:=first|exact zd|fail) [g1]; rfl)
    refine .sq fun K21 hK21=>?_
    refine .q ?_ (by simp (disch:=first|exact zd|fail) [g1,g8]; rfl)
    refine .c (t:=decide (decide ((htn L o : Int) > v) ≠ decide ((htn L h : Int) > v))) (fun h52=>?_) (fun h52=>?_) (by simp (disch:=first|exact zd|fail) [bneB])
    ·try simp only[dc]at h52
     rw [if_pos h52] at kGe
     refine .q ?_
     refine .c (t:=!decide ((htn L o : Int) > v)) (fun h54=>?_) (fun h54=>?_)
     ·try simp only[dc]at h54
      have hkf : kG L v o h = false:=by rw [kGe]; simpa using h54
      refine .exit ?_
      refine J12 _ ?_
      refine ⟨k,hjq hkf,?_,?_,?_,?_,?_,?_,?_,?_,?_,rfl⟩ <;> first|(simp (disch:=omega) [g1,g2,g5,g6,g7,g8,g9,Hp,Ho];done)|omega|(simp;omega)
     ·try simp only[dc]at h54
      have hj':=hjs (by rw [kGe]; simpa using h54)
      refine .skip ?_
      refine hK21 _ ?_
      refine .r ?_ (by simp (disch:=first|exact zd|fail) [g9]; rfl)
      refine ⟨A.length - (k + 1),by omega,k + 1,rfl,by omega,hj',?_,?_,?_,?_,?_,?_,?_,?_,?_,?_,?_,rfl⟩ <;> first|(simp (disch:=omega) [g1,g2,g5,g6,g7,g8,g9,Hp,Ho];done)|omega|(simp;done)|(simp;omega)
    ·try simp only[dc]at h52
     rw [if_neg h52] at kGe
     refine .sq fun K24 hK24=>?_
     have hpv : ((hitP L).map cellS)[v]? = some (cellS (gpq L (v))):=by rw [List.getElem?_map,gpq_get (by omega)]; rfl
     have hqv : ∀ q : v < ((hitP L).map cellS).length,((hitP L).map cellS)[v] = cellS (gpq L (v)):=fun q=>by rw [List.getElem?_eq_getElem q] at hpv; simpa using hpv
     have hpo : ((hitP L).map cellS)[htn L o]? = some (cellS (gpq L (htn L o))):=by rw [List.getElem?_map,gpq_get (by omega)]; rfl
     have hqo : ∀ q : htn L o < ((hitP L).map cellS).length,((hitP L).map cellS)[htn L o] = cellS (gpq L (htn L o)):=fun q=>by rw [List.getElem?_eq_getElem q] at hpo; simpa using hpo
     have hph : ((hitP L).map cellS)[htn L h]? = some (cellS (gpq L (htn L h))):=by rw [List.getElem?_map,gpq_get (by omega)]; rfl
     have hqh : ∀ q : htn L h < ((hitP L).map cellS).length,((hitP L).map cellS)[htn L h] = cellS (gpq L (htn L h)):=fun q=>by rw [List.getElem?_eq_getElem q] at hph; simpa using hph
     have hpl : ((hitP L).map cellS).length = (hitP L).length:=List.length_map _
     have fcD:=l3Orient_fc (gpq L v).1 (gpq L (htn L o)).1 (gpq L (htn L h)).1 (gpq L v).2.1 (gpq L (htn L o)).2.1 (gpq L (htn L h)).2.1
     simp only [cellS,l3C] at hpv hqv hpo hqo hph hqh
     simp only [l3A,l3C] at fcD
     refine .d 17 ?_
     refine .k 15 (fun fs25 hfs25=>?_) (by simp (disch:=first|exact zd|fail) [List.take_succ_cons,List.take_zero,if_pos,g1,g2,g8,Hp,hpv,hqv,hpo,hqo,hph,hqh,hpl,hv,n4,o4]; rfl)
     refine .f fcD hb113 ?_ (ha:=by simp (disch:=first|exact zd|fail) [idf_Wd',if_pos,g1,g2,g8,Hp,hpv,hqv,hpo,hqo,hph,hqh,hpl,hv,n4,o4])
     refine .k 1 (fun fs26 hfs26=>?_) (by simp (disch:=first|exact zd|fail) [List.take_succ_cons,List.take_zero,if_pos,g1,g2,g8,Hp,hpv,hqv,hpo,hqo,hph,hqh,hpl,hv,n4,o4]; rfl)
     refine .r 17 (by simp only[ln,hfs25,hfs26];omega) ?_ (by simp (disch:=first|exact zd|fail) [if_pos,g1,g2,g8,Hp,hpv,hqv,hpo,hqo,hph,hqh,hpl,hv,n4,o4]; rfl)
     refine hK24 _ ?_
     refine .c (t:=decide (sg3 (det (gpq L v).1 (gpq L (htn L o)).1 (gpq L (htn L h)).1) < 0)) (fun h71=>?_) (fun h71=>?_)
     ·try simp only[dc]at h71
      have hkf : kG L v o h = false:=by rw [kGe,decide_eq_false_iff_not]; omega
      refine .exit ?_
      refine J12 _ ?_
      refine ⟨k,hjq hkf,?_,?_,?_,?_,?_,?_,?_,?_,?_,rfl⟩ <;> first|(simp (disch:=omega) [g1,g2,g5,g6,g7,g8,g9,Hp,Ho];done)|omega|(simp;omega)
     ·try simp only[dc]at h71
      have hj':=hjs (by rw [kGe,decide_eq_true_eq]; omega)
      refine .skip ?_
      refine hK21 _ ?_
      refine .r ?_ (by simp (disch:=first|exact zd|fail) [g9]; rfl)
      refine ⟨A.length - (k + 1),by omega,k + 1,rfl,by omega,hj',?_,?_,?_,?_,?_,?_,?_,?_,?_,?_,?_,rfl⟩ <;> first|(simp (disch:=omega) [g1,g2,g5,g6,g7,g8,g9,Hp,Ho];done)|omega|(simp;done)|(simp;omega)
   ·try simp only[dc]at h35
    have hkn : k = A.length:=by omega
    refine .exit ?_
    refine J12 _ ?_
    refine ⟨k,by rw [hkn]; exact insK_z (fun j q=>hj j (by omega)),?_,?_,?_,?_,?_,?_,?_,?_,?_,rfl⟩ <;> first|(simp (disch:=omega) [g1,g2,g5,g6,g7,g8,g9,Hp,Ho];done)|omega|(simp;omega)
 ·try simp only[dc]at h20
  have hin : h = 2 * (edL L).length:=by omega
  subst hin
  have hAv : A = arV L v:=hA
  subst hAv
  refine .exit ?_
  refine hK3 _ ?_
  refine .q ?_ (by simp (disch:=first|exact zd|fail) [g5]; rfl)
  refine .ret ?_
  exact hK _ _ _ _ _ trivial (Fin.own1 (Fin.mk (by simp (disch:=omega) [aRes,aResL,aRes1]; try rfl)) (id:=io) (by simp [Ho])) (⟨io,by first | omega | (simp; done) | (simp; omega),by first | omega | (simp; done) | (simp; omega),rfl,rfl⟩)
end

end Go.Proofs.YtjbbbkfdcegfmaaGreat

/- Walks: halves around all points. -/
namespace Go.Proofs.YtjbbbkfdcegfmaaGreat
open Go Go.RowKit
set_option linter.unusedSimpArgs false
set_option linter.unusedVariables false
set_option maxRecDepth 100000
attribute [local simp] szT2 byT2 agT2 unT2 zoT2 szT3 byT3 agT3 unT3 zoT3 szT24 byT24 agT24 elT24 unT24 zoT24 szT27 byT27 agT27 elT27 unT27 zoT27 szT37 byT37 agT37 elT37 unT37 zoT37 szT38 byT38 agT38 elT38 unT38 zoT38 szT40 byT40 agT40 flT40 fdT40_0 fdT40_1 zoT40 szT62 byT62 agT62 flT62 fdT62_0 fdT62_1 fdT62_2 zoT62 szT81 byT81 agT81 flT81 fdT81_0 fdT81_1 fdT81_2 zoT81 szT85 byT85 agT85 flT85 fdT85_0 fdT85_1 zoT85 szT94 byT94 agT94 elT94 unT94 zoT94 szT162 byT162 agT162 srT24 ixT24 lnT24 srT27 srT37 srT38 srT94
def sort1_lay_ren : Go.Shelf.Ren:=⟨fun | 6=>116 | 15=>162 | 14=>168 | 28=>211 | 29=>212 | 20=>223 | 21=>224 | 22=>225 | 23=>226 | 24=>227 | 25=>228 | 26=>229 | 27=>230 | 46=>262 | 47=>255 | 48=>256 | 49=>263 | 50=>264 | 57=>271 | n=>n,fun | 22=>24 | 24=>2 | 25=>154 | 3=>3 | 39=>216 | 0=>0 | 53=>223 | 55=>52 | 4=>4 | 46=>252 | 45=>251 | 50=>150 | 5=>5 | 9=>9 | 66=>286 | 70=>290 | 76=>300 | 77=>301 | n=>n,fun | n=>n⟩
theorem sort1_lay : SlLaysF.n6 Tryz.prog sort1_lay_ren:={
 mixed:=by kernel_rfl
 f6:=⟨Tryz.f116.name,by decide,Tryz.func116.trans (congrArg some (by kernel_rfl))⟩
 f14:=⟨Tryz.f168.name,by decide,Tryz.func168.trans (congrArg some (by kernel_rfl))⟩
 f15:=Tryz.func162.trans (congrArg some (by kernel_rfl))
 f20:=⟨Tryz.f223.name,by decide,Tryz.func223.trans (congrArg some (by kernel_rfl))⟩
 f21:=⟨Tryz.f224.name,by decide,Tryz.func224.trans (congrArg some (by kernel_rfl))⟩
 f22:=⟨Tryz.f225.name,by decide,Tryz.func225.trans (congrArg some (by kernel_rfl))⟩
 f23:=⟨Tryz.f226.name,by decide,Tryz.func226.trans (congrArg some (by kernel_rfl))⟩
 f24:=⟨Tryz.f227.name,by decide,Tryz.func227.trans (congrArg some (by kernel_rfl))⟩
 f25:=⟨Tryz.f228.name,by decide,Tryz.func228.trans (congrArg some (by kernel_rfl))⟩
 f26:=⟨Tryz.f229.name,by decide,Tryz.func229.trans (congrArg some (by kernel_rfl))⟩
 f27:=⟨Tryz.f230.name,by decide,Tryz.func230.trans (congrArg some (by kernel_rfl))⟩
 f28:=Tryz.func211.trans (congrArg some (by kernel_rfl))
 f29:=Tryz.func212.trans (congrArg some (by kernel_rfl))
 f46:=⟨Tryz.f262.name,by decide,Tryz.func262.trans (congrArg some (by kernel_rfl))⟩
 f47:=Tryz.func255.trans (congrArg some (by kernel_rfl))
 f48:=Tryz.func256.trans (congrArg some (by kernel_rfl))
 f49:=⟨Tryz.f263.name,by decide,Tryz.func263.trans (congrArg some (by kernel_rfl))⟩
 f50:=⟨Tryz.f264.name,by decide,Tryz.func264.trans (congrArg some (by kernel_rfl))⟩
 f57:=⟨Tryz.f271.name,by decide,Tryz.func271.trans (congrArg some (by kernel_rfl))⟩
 t0:=Tryz.underlying0
 a0:=Tryz.isAgg0
 z0:=Tryz.sizeOf0
 v0:=Tryz.zeroValue0
 t3:=Tryz.underlying3
 a3:=Tryz.isAgg3
 z3:=Tryz.sizeOf3
 v3:=Tryz.zeroValue3
 t4:=Tryz.underlying4
 a4:=Tryz.isAgg4
 z4:=Tryz.sizeOf4
 v4:=Tryz.zeroValue4
 t5:=Tryz.underlying5
 a5:=Tryz.isAgg5
 z5:=Tryz.sizeOf5
 v5:=Tryz.zeroValue5
 t9:=Tryz.underlying9
 a9:=Tryz.isAgg9
 z9:=Tryz.sizeOf9
 v9:=Tryz.zeroValue9
 t22:=Tryz.underlying24
 a22:=Tryz.isAgg24
 z22:=Tryz.sizeOf24
 v22:=Tryz.zeroValue24
 a24:=Tryz.isAgg2
 z24:=Tryz.sizeOf2
 t25:=Tryz.underlying154
 a25:=Tryz.isAgg154
 z25:=Tryz.sizeOf154
 v25:=Tryz.zeroValue154
 t39:=Tryz.underlying216
 a39:=Tryz.isAgg216
 z39:=Tryz.sizeOf216
 v39:=Tryz.zeroValue216
 t45:=Tryz.underlying251
 a45:=Tryz.isAgg251
 z45:=Tryz.sizeOf251
 v45:=Tryz.zeroValue251
 t46:=Tryz.underlying252
 a46:=Tryz.isAgg252
 z46:=Tryz.sizeOf252
 v46:=Tryz.zeroValue252
 t50:=Tryz.underlying150
 a50:=Tryz.isAgg150
 z50:=Tryz.sizeOf150
 v50:=Tryz.zeroValue150
 t53:=Tryz.underlying223
 a53:=Tryz.isAgg223
 z53:=Tryz.sizeOf223
 v53:=Tryz.zeroValue223
 t55:=Tryz.underlying52
 a55:=Tryz.isAgg52
 z55:=Tryz.sizeOf52
 v55:=Tryz.zeroValue52
 t66:=Tryz.underlying286
 a66:=Tryz.isAgg286
 z66:=Tryz.sizeOf286
 v66:=Tryz.zeroValue286
 t70:=Tryz.underlying290
 a70:=Tryz.isAgg290
 z70:=Tryz.sizeOf290
 v70:=Tryz.zeroValue290
 t76:=Tryz.underlying300
 a76:=Tryz.isAgg300
 z76:=Tryz.sizeOf300
 v76:=Tryz.zeroValue300
 t77:=Tryz.underlying301
 a77:=Tryz.isAgg301
 z77:=Tryz.sizeOf301
 v77:=Tryz.zeroValue301 }

theorem zoFn2 : zOf Tryz.prog 162 = some [.junk]:=by kernel_rfl
theorem mk_nil (f : Nat → Nat) (L : List Sg) (m : Nat) : List.replicate m [AV.nsl] = mkR (rowX f (fun v=>bkt L v 0)) m:=by
  refine List.ext_getElem (by simp [mkR]) fun i a b=>?_
  simp [mkR,rowX,bkt]
theorem srtH_ac (L : List Sg) (z2 : ∀ s ∈ L,s.good = true) (hb : (edL L).length ≤ 67200) (v n id : Nat) (HP : Heap) (nx : Nat) (hn : (bkt L v (2 * (edL L).length)).length = n) (hH : HP id = some (1,wd .i64 ((bkt L v (2 * (edL L).length)).map fun x : Nat=>(x : Int)))) (h0 : 0 < n) :
    ACall Tryz.prog 116 [.osl id 0 n,.fn 117 [.ip [.isl ((hitP L).map cellsG),.isl ((edL L).map edC)],.ip [.isl (L.map Sg.cells)],.ip [.fn 115 []]]] HP nx (fun r H' nx'=>r = .tup [] ∧ H' = hupd HP id (some (1,wd .i64 ((arV L v).map fun x : Nat=>(x : Int)))) ∧ nx ≤ nx'):=by
  obtain ⟨D,hD⟩ : ∃ D : List (HF L),D.map (·.1) = bkt L v (2 * (edL L).length) :=
    ⟨(bkt L v (2 * (edL L).length)).pmap Subtype.mk fun x hx=>(bkt_mem.1 hx).1,by rw [List.map_pmap]; simp⟩
  have hDl : D.length = n:=by rw [← hn,← hD,List.length_map]
  obtain ⟨x0,hx0⟩ : ∃ x,x ∈ D:=List.exists_mem_of_length_pos (by omega)
  have : Inhabited (HF L):=⟨x0⟩
  have hcl : ∀ A : List (HF L),rwA (fun x : HF L=>[AV.int .i64 (x.1 : Int)]) A.toArray = wd .i64 ((A.map (·.1)).map fun x : Nat=>(x : Int)):=fun A=>by simp [rwA,wd,Function.comp_def]
  have hbl:=Nat.le_trans (List.length_filter_le (fun h=>decide (hfr (edL L) h = v)) (List.range (2 * (edL L).length))) (by rw [List.length_range]; exact Nat.le_refl _)
  have q:=sort1_ac sort1_lay (fun x : HF L=>(x.1 : Int)) (fun x y=>cmW (hw L x.1) (hw L y.1)) 117 [.ip [.isl ((hitP L).map cellsG),.isl ((edL L).map edC)],.ip [.isl (L.map Sg.cells)],.ip [.fn 115 []]] hb117 (fun x y=>cmpA_fc L x.1 y.1 x.2 y.2 hb z2) (hf_swo z2) D.toArray n id HP nx (by simpa using hDl) (by rw [hcl,hD]; exact hH) h0 (by unfold bkt at hn; omega)
  refine ACall.mono q fun r H' nx' ⟨a,b,c⟩=>⟨a,?_,c⟩
  rw [b]
  have hs:=sort_list (hf_swo z2) D
  have e : ((Sort.sort (ltc fun x y : HF L=>cmW (hw L x.1) (hw L y.1)) D.toArray).toList.map (·.1)) = arV L v:=ar_sort z2 (by rw [← hD]; exact hs.1.map _) (by rw [List.pairwise_map]; exact hs.2)
  have e2:=hcl (Sort.sort (ltc fun x y : HF L=>cmW (hw L x.1) (hw L y.1)) D.toArray).toList
  rw [e] at e2
  rw [← e2]

theorem arn_zero {L : List Sg} {H : Heap} {lo hi io : Nat} {f : Nat → Nat} {m : Nat} (h1 : lo ≤ io) (h2 : io < hi) (h3 : H io = some (1,mkR (rowX f (fun v=>bkt L v 0)) m)) : ArN H lo hi io f (fun v=>bkt L v 0) m :=
  ⟨⟨h1,h2⟩,h3,fun v _ hb=>absurd rfl hb,fun a b _ _ na _ _=>absurd rfl na⟩

set_option maxHeartbeats 8000000 in
theorem around_ac (L : List Sg) (z1 : L.length ≤ 40) (z2 : ∀ s ∈ L,s.good = true) (nx : Nat) : ACall Tryz.prog 67 [.agg [.isl ((hitP L).map cellsG),.isl ((edL L).map edC)],.isl (L.map Sg.cells)] (fun _=>none) nx (fun r H' nx'=>∃ io f,r = .osl io 0 (hitP L).length ∧ ArN H' nx nx' io f (arV L) (hitP L).length):=by
 have hpb : (hitP L).length ≤ 1680:=by rw [hitP_len]; exact ded_b z1 (Nat.le_refl _)
 obtain ⟨eb1,eb2⟩:=edL_b z1 hpb
 refine .b Tryz.func67 47 fun K hK=>?_
 refine .q ?_
 refine AWP.frz1 2 nx 2 [[.isl ((hitP L).map cellsG),.isl ((edL L).map edC)]] (.ip [.isl ((hitP L).map cellsG),.isl ((edL L).map edC)]) (by simp (disch:=omega)) (by simp (disch:=omega) [fz]) ?_
 refine AWP.frz1 3 (nx + 1) 1 [[.isl (L.map Sg.cells)]] (.ip [.isl (L.map Sg.cells)]) (by simp (disch:=omega)) (by simp (disch:=omega) [fz]) ?_
 refine .q ?_ (by simp (disch:=first|exact zd|fail) [if_pos,List.length_map]; rfl)
 refine .sq fun K3 hK3=>?_
 refine .q ?_ (by simp (disch:=first|exact zd|fail) [List.length_map]; rfl)
 refine .block ?_
 
 refine .loop (fun N s=>∃ h : Nat,∃ f : Nat → Nat,∃ io : Nat,N = (2 * (edL L).length) - h ∧ h ≤ (2 * (edL L).length) ∧ (ArN s.heap nx s.nx io f (fun v=>bkt L v h) (hitP L).length) ∧ s.env 2 = .ip [.isl ((hitP L).map cellsG),.isl ((edL L).map edC)] ∧ s.env 3 = .ip [.isl (L.map Sg.cells)] ∧ s.env 5 = .osl io 0 (hitP L).length ∧ s.env 17 = .int .i64 ((2 * (edL L).length : Nat) : Int) ∧ s.env 18 = .int .i64 (h : Int) ∧ s.nt = 47) ((2 * (edL L).length)) (by refine ⟨0,fun _=>0,(nx + 1 + 1),by omega,by omega,arn_zero (by omega) (by first|omega|(simp;done)|(simp;omega)) (by simp (disch:=omega) [mk_nil (fun _=>0) L]),?_,?_,?_,?_,?_,rfl⟩ <;> first|(simp (disch:=omega) [True.intro];done)|omega|(simp;done)|(simp;omega)) ?_
 rintro N ⟨e,H,mm,nt⟩ ⟨h,f,io,rfl,hh,hAr,g2,g3,g5,g17,g18,rfl⟩
 simp only [] at g2 g3 g5 g17 g18
 simp only [] at hAr
 refine .q ?_ (by simp (disch:=first|exact zd|fail) [g17,g18]; rfl)
 refine .sq fun K6 hK6=>?_
 refine .c (fun h19=>?_) (fun h19=>?_)
 ·try simp only[dc]at h19
  have hh' : h < 2 * (edL L).length:=by omega
  obtain ⟨n1,_,n3,_⟩:=hf_nat hh'
  obtain ⟨v0,hv0⟩ : ∃ v,v = hfn L h:=⟨_,rfl⟩
  rw [← hv0] at n1 n3
  have fcF:=fromI_fc L h hh' eb1
  rw [n1] at fcF
  obtain ⟨seg,hsg⟩ : ∃ s : List Int,s = (bkt L v0 h).map fun x : Nat=>(x : Int):=⟨_,rfl⟩
  have hsl : seg.length = (bkt L v0 h).length:=by rw [hsg,List.length_map]
  have hbl : seg.length ≤ 134400:=by rw [hsl]; exact Nat.le_trans (List.length_filter_le _ _) (by rw [List.length_range]; omega)
  have htop:=hAr.top
  have hixr:=hAr.ixr
  obtain ⟨ROWS,hR⟩ : ∃ R,R = mkR (rowX f fun v=>bkt L v h) (hitP L).length:=⟨_,rfl⟩
  rw [← hR] at htop
  have hRl : ROWS.length = (hitP L).length:=by rw [hR,mkR_len]
  obtain ⟨sv,px,hrow,hsv,hpx,hpf⟩ : ∃ (sv : AV) (px : Nat),ROWS[v0]? = some [sv] ∧ ((sv = .nsl ∧ seg = [] ∧ px = io) ∨ (sv = .osl px 0 seg.length ∧ H px = some (1,wd .i64 seg) ∧ px ≠ io)) ∧ (nx ≤ px ∧ px < mm) ∧ ((bkt L v0 h = [] ∧ px = io) ∨ (bkt L v0 h ≠ [] ∧ px = f v0)):=by
    by_cases he : bkt L v0 h = []
    · exact ⟨.nsl,io,by rw [hR,mkR_get _ n3]; simp [rowX,he],.inl ⟨rfl,by rw [hsg,he]; rfl,rfl⟩,hixr,.inl ⟨he,rfl⟩⟩
    · obtain ⟨a,b,c,d⟩:=hAr.row v0 n3 he
      exact ⟨.osl (f v0) 0 seg.length,f v0,by rw [hR,mkR_get _ n3]; simp [rowX,he,hsl],.inr ⟨rfl,by rw [hsg]; exact d,c⟩,⟨a,b⟩,.inr ⟨he,rfl⟩⟩
  have hrowE : ∀ q : v0 < ROWS.length,ROWS[v0] = [sv]:=fun q=>by rw [List.getElem?_eq_getElem q] at hrow; simpa using hrow
  have hkl : v0 < ROWS.length:=by omega
  obtain ⟨m0,hm0⟩ : ∃ m0,m0 = mm:=⟨_,rfl⟩
  obtain ⟨H0,hH0⟩ : ∃ H0,H0 = H:=⟨_,rfl⟩
  refine .skip ?_
  refine hK6 _ ?_
  refine .sq fun K7 hK7=>?_
  refine .block ?_
  refine .q ?_ (by simp (disch:=first|exact zd|fail) [g18]; rfl)
  refine AWP.inv Tryz.checked.mixed (by kernel_rfl) (fun LL s=>(s.env 2 = .ip [.isl ((hitP L).map cellsG),.isl ((edL L).map edC)]) ∧ (s.env 3 = .ip [.isl (L.map Sg.cells)]) ∧ (s.env 5 = .osl io 0 (hitP L).length) ∧ (s.env 17 = .int .i64 ((2 * (edL L).length : Nat) : Int)) ∧ (s.env 18 = .int .i64 (h : Int)) ∧ (s.env 6 = .int .i64 (h : Int)) ∧ (s.nt = 47) ∧ (m0 ≤ s.nx) ∧ (∀ q,nx ≤ q → q < m0 → q ≠ io → q ≠ px → s.heap q = H0 q) ∧ (LL 0 = true → s.env 21 = .osl io 0 (hitP L).length) ∧ (LL 1 = true → s.env 22 = .agg [.isl ((hitP L).map cellsG),.isl ((edL L).map edC)]) ∧ (LL 2 = true → s.env 23 = .int .i64 (h : Int)) ∧ (LL 3 = true → s.env 24 = .int .i64 (v0 : Int)) ∧ (LL 4 = true → s.env 25 = .osl io 0 (hitP L).length) ∧ (LL 5 = true → s.env 26 = .agg [.isl ((hitP L).map cellsG),.isl ((edL L).map edC)]) ∧ (LL 6 = true → s.env 27 = .int .i64 (h : Int)) ∧ (LL 7 = true → s.env 28 = .int .i64 (v0 : Int)) ∧ (LL 8 = true → s.env 29 = .ptr io v0 0) ∧ (LL 9 = true → s.env 30 = sv) ∧ (LL 10 = true → s.env 31 = .int .i64 (h : Int)) ∧ (LL 11 = true → ∃ i2 : Nat,s.env 32 = .osl i2 0 1 ∧ s.heap i2 = some (1,wd .i64 [(h : Int)]) ∧ m0 ≤ i2 ∧ i2 < s.nx) ∧ (LL 12 = true → ∃ i1 : Nat,s.env 33 = .osl i1 0 (seg.length + 1) ∧ s.heap i1 = some (1,wd .i64 (seg ++ [(h : Int)])) ∧ m0 ≤ i1 ∧ i1 < s.nx) ∧ (LL 13 = true → s.env 34 = .ptr io v0 0) ∧ (LL 14 = true → ∃ i1 : Nat,s.heap io = some (1,ROWS.set v0 [.osl i1 0 (seg.length + 1)]) ∧ s.heap i1 = some (1,wd .i64 (seg ++ [(h : Int)])) ∧ m0 ≤ i1 ∧ i1 < s.nx) ∧ (LL 12 = false → (sv = .nsl ∧ seg = [] ∧ px = io) ∨ (sv = .osl px 0 seg.length ∧ s.heap px = some (1,wd .i64 seg) ∧ px ≠ io)) ∧ (LL 14 = false → s.heap io = some (1,ROWS))) (⟨by first|(simp (disch:=omega) [g2,g3,g5,g17,g18,htop];done)|omega|(simp;done)|(simp;omega)|(simp (disch:=omega) [g2,g3,g5,g17,g18,htop] <;> omega),by first|(simp (disch:=omega) [g2,g3,g5,g17,g18,htop];done)|omega|(simp;done)|(simp;omega)|(simp (disch:=omega) [g2,g3,g5,g17,g18,htop] <;> omega),by first|(simp (disch:=omega) [g2,g3,g5,g17,g18,htop];done)|omega|(simp;done)|(simp;omega)|(simp (disch:=omega) [g2,g3,g5,g17,g18,htop] <;> omega),by first|(simp (disch:=omega) [g2,g3,g5,g17,g18,htop];done)|omega|(simp;done)|(simp;omega)|(simp (disch:=omega) [g2,g3,g5,g17,g18,htop] <;> omega),by first|(simp (disch:=omega) [g2,g3,g5,g17,g18,htop];done)|omega|(simp;done)|(simp;omega)|(simp (disch:=omega) [g2,g3,g5,g17,g18,htop] <;> omega),by first|(simp (disch:=omega) [g2,g3,g5,g17,g18,htop];done)|omega|(simp;done)|(simp;omega)|(simp (disch:=omega) [g2,g3,g5,g17,g18,htop] <;> omega),rfl,by first|omega|(simp;omega),fun q _ _ _ _=>by rw [hH0],fun h=>by simp at h,fun h=>by simp at h,fun h=>by simp at h,fun h=>by simp at h,fun h=>by simp at h,fun h=>by simp at h,fun h=>by simp at h,fun h=>by simp at h,fun h=>by simp at h,fun h=>by simp at h,fun h=>by simp at h,fun h=>by simp at h,fun h=>by simp at h,fun h=>by simp at h,fun h=>by simp at h,fun _=>hsv,fun _=>by first|(simp (disch:=omega) [g2,g3,g5,g17,g18,htop];done)|omega|(simp;done)|(simp;omega)|(simp (disch:=omega) [g2,g3,g5,g17,g18,htop] <;> omega)⟩) ?_ ?_
  ·rintro LL ⟨e,H,mm,nt⟩ x o hC ⟨b2,b3,b5,b17,b18,b6,hnt,hmm,hfm,c0,c1,c2,c3,c4,c5,c6,c7,c8,c9,c10,c11,c12,c13,c14,nsv,ne⟩ hxx hoo hpp
   simp only [] at b2 b3 b5 b17 b18 b6 hnt hmm hfm c0 c1 c2 c3 c4 c5 c6 c7 c8 c9 c10 c11 c12 c13 c14 nsv ne
   subst hnt
   rcases x with _ | _ | _ | _ | _ | _ | _ | _ | _ | _ | _ | _ | _ | _ | _ | x
   all_goals first|(simp only [List.getElem?_toArray,List.getElem?_cons_zero,List.getElem?_cons_succ,Option.some.injEq] at hoo;subst hoo;try simp only [Nat.zero_add,Nat.reduceAdd] at hxx ⊢)|(simp at hoo;done)
   ·have fne:=ne (hC.not hxx (k:=14) rfl (by simp [pre,Region.binds]))
    refine .e ?_ (by simp (disch:=first|exact zd|fail) [if_pos,b2,b3,b5,b17,b18,b6,hmm,hfm,fne,hrow,hrowE,hkl,hRl,n3]; rfl)
    refine ⟨?_,?_,?_,?_,?_,?_,rfl,?_,hfm,fun _=>?_,?_,?_,?_,?_,?_,?_,?_,?_,?_,?_,fun h=>by obtain ⟨i2,k⟩:=c11 (by rwa [upL_ne LL (by decide)] at h); first | exact ⟨i2,k⟩ | (refine ⟨i2,?_⟩; simp (disch:=omega) [k] <;> omega),fun h=>by obtain ⟨i1,k⟩:=c12 (by rwa [upL_ne LL (by decide)] at h); first | exact ⟨i1,k⟩ | (refine ⟨i1,?_⟩; simp (disch:=omega) [k] <;> omega),?_,fun h=>by obtain ⟨i1,k⟩:=c14 (by rwa [upL_ne LL (by decide)] at h); first | exact ⟨i1,k⟩ | (refine ⟨i1,?_⟩; simp (disch:=omega) [k] <;> omega),fun h=>nsv (by rw [upL_ne LL (by decide)] at h; exact h),?_⟩ <;> first|omega|assumption|(simp (disch:=omega) [b2,b3,b5,b17,b18,b6,hmm,hfm,fne,hrow,hrowE,hkl,hRl,n3,upL] <;> first|assumption|omega)
   ·have fnsv:=nsv (hC.not (hC.not (hC.not hxx (k:=3) rfl (by simp [pre,Region.binds])) (k:=7) rfl (by simp [pre,Region.binds])) (k:=12) rfl (by simp [pre,Region.binds]))
    have fne:=ne (hC.not hxx (k:=14) rfl (by simp [pre,Region.binds]))
    refine .e ?_ (by simp (disch:=first|exact zd|fail) [if_pos,b2,b3,b5,b17,b18,b6,hmm,hfm,fnsv,fne,hrow,hrowE,hkl,hRl,n3]; rfl)
    refine ⟨?_,?_,?_,?_,?_,?_,rfl,?_,hfm,?_,fun _=>?_,?_,?_,?_,?_,?_,?_,?_,?_,?_,fun h=>by obtain ⟨i2,k⟩:=c11 (by rwa [upL_ne LL (by decide)] at h); first | exact ⟨i2,k⟩ | (refine ⟨i2,?_⟩; simp (disch:=omega) [k] <;> omega),fun h=>by obtain ⟨i1,k⟩:=c12 (by rwa [upL_ne LL (by decide)] at h); first | exact ⟨i1,k⟩ | (refine ⟨i1,?_⟩; simp (disch:=omega) [k] <;> omega),?_,fun h=>by obtain ⟨i1,k⟩:=c14 (by rwa [upL_ne LL (by decide)] at h); first | exact ⟨i1,k⟩ | (refine ⟨i1,?_⟩; simp (disch:=omega) [k] <;> omega),fun h=>nsv (by rw [upL_ne LL (by decide)] at h; exact h),?_⟩ <;> first|omega|assumption|(simp (disch:=omega) [b2,b3,b5,b17,b18,b6,hmm,hfm,fnsv,fne,hrow,hrowE,hkl,hRl,n3,upL] <;> first|assumption|omega)
   ·have fnsv:=nsv (hC.not (hC.not (hC.not hxx (k:=3) rfl (by simp [pre,Region.binds])) (k:=7) rfl (by simp [pre,Region.binds])) (k:=12) rfl (by simp [pre,Region.binds]))
    have fne:=ne (hC.not hxx (k:=14) rfl (by simp [pre,Region.binds]))
    refine .e ?_ (by simp (disch:=first|exact zd|fail) [if_pos,b2,b3,b5,b17,b18,b6,hmm,hfm,fnsv,fne,hrow,hrowE,hkl,hRl,n3]; rfl)
    refine ⟨?_,?_,?_,?_,?_,?_,rfl,?_,hfm,?_,?_,fun _=>?_,?_,?_,?_,?_,?_,?_,?_,?_,fun h=>by obtain ⟨i2,k⟩:=c11 (by rwa [upL_ne LL (by decide)] at h); first | exact ⟨i2,k⟩ | (refine ⟨i2,?_⟩; simp (disch:=omega) [k] <;> omega),fun h=>by obtain ⟨i1,k⟩:=c12 (by rwa [upL_ne LL (by decide)] at h); first | exact ⟨i1,k⟩ | (refine ⟨i1,?_⟩; simp (disch:=omega) [k] <;> omega),?_,fun h=>by obtain ⟨i1,k⟩:=c14 (by rwa [upL_ne LL (by decide)] at h); first | exact ⟨i1,k⟩ | (refine ⟨i1,?_⟩; simp (disch:=omega) [k] <;> omega),fun h=>nsv (by rw [upL_ne LL (by decide)] at h; exact h),?_⟩ <;> first|omega|assumption|(simp (disch:=omega) [b2,b3,b5,b17,b18,b6,hmm,hfm,fnsv,fne,hrow,hrowE,hkl,hRl,n3,upL] <;> first|assumption|omega)
   ·have fc1:=c1 (hpp 1 (by simp [pre,Region.binds]))
    have fc2:=c2 (hpp 2 (by simp [pre,Region.binds]))
    have fnsv:=nsv (hC.not (hC.not hxx (k:=7) rfl (by simp [pre,Region.binds])) (k:=12) rfl (by simp [pre,Region.binds]))
    have fne:=ne (hC.not hxx (k:=14) rfl (by simp [pre,Region.binds]))
    refine .f fcF hb114 ?_ (ha:=by simp (disch:=first|exact zd|fail) [idf_Wd',if_pos,b2,b3,b5,b17,b18,b6,hmm,hfm,fc1,fc2,fnsv,fne,hrow,hrowE,hkl,hRl,n3])
    refine AOPS.nil ?_
    refine ⟨?_,?_,?_,?_,?_,?_,rfl,?_,hfm,?_,?_,?_,fun _=>?_,?_,?_,?_,?_,?_,?_,?_,fun h=>by obtain ⟨i2,k⟩:=c11 (by rwa [upL_ne LL (by decide)] at h); first | exact ⟨i2,k⟩ | (refine ⟨i2,?_⟩; simp (disch:=omega) [k] <;> omega),fun h=>by obtain ⟨i1,k⟩:=c12 (by rwa [upL_ne LL (by decide)] at h); first | exact ⟨i1,k⟩ | (refine ⟨i1,?_⟩; simp (disch:=omega) [k] <;> omega),?_,fun h=>by obtain ⟨i1,k⟩:=c14 (by rwa [upL_ne LL (by decide)] at h); first | exact ⟨i1,k⟩ | (refine ⟨i1,?_⟩; simp (disch:=omega) [k] <;> omega),fun h=>nsv (by rw [upL_ne LL (by decide)] at h; exact h),?_⟩ <;> first|omega|assumption|(simp (disch:=omega) [b2,b3,b5,b17,b18,b6,hmm,hfm,fc1,fc2,fnsv,fne,hrow,hrowE,hkl,hRl,n3,upL] <;> first|assumption|omega)
   ·have fnsv:=nsv (hC.not (hC.not (hC.not hxx (k:=8) rfl (by simp [pre,Region.binds])) (k:=9) rfl (by simp [pre,Region.binds])) (k:=12) rfl (by simp [pre,Region.binds]))
    have fne:=ne (hC.not hxx (k:=14) rfl (by simp [pre,Region.binds]))
    refine .e ?_ (by simp (disch:=first|exact zd|fail) [if_pos,b2,b3,b5,b17,b18,b6,hmm,hfm,fnsv,fne,hrow,hrowE,hkl,hRl,n3]; rfl)
    refine ⟨?_,?_,?_,?_,?_,?_,rfl,?_,hfm,?_,?_,?_,?_,fun _=>?_,?_,?_,?_,?_,?_,?_,fun h=>by obtain ⟨i2,k⟩:=c11 (by rwa [upL_ne LL (by decide)] at h); first | exact ⟨i2,k⟩ | (refine ⟨i2,?_⟩; simp (disch:=omega) [k] <;> omega),fun h=>by obtain ⟨i1,k⟩:=c12 (by rwa [upL_ne LL (by decide)] at h); first | exact ⟨i1,k⟩ | (refine ⟨i1,?_⟩; simp (disch:=omega) [k] <;> omega),?_,fun h=>by obtain ⟨i1,k⟩:=c14 (by rwa [upL_ne LL (by decide)] at h); first | exact ⟨i1,k⟩ | (refine ⟨i1,?_⟩; simp (disch:=omega) [k] <;> omega),fun h=>nsv (by rw [upL_ne LL (by decide)] at h; exact h),?_⟩ <;> first|omega|assumption|(simp (disch:=omega) [b2,b3,b5,b17,b18,b6,hmm,hfm,fnsv,fne,hrow,hrowE,hkl,hRl,n3,upL] <;> first|assumption|omega)
   ·have fnsv:=nsv (hC.not (hC.not hxx (k:=7) rfl (by simp [pre,Region.binds])) (k:=12) rfl (by simp [pre,Region.binds]))
    have fne:=ne (hC.not hxx (k:=14) rfl (by simp [pre,Region.binds]))
    refine .e ?_ (by simp (disch:=first|exact zd|fail) [if_pos,b2,b3,b5,b17,b18,b6,hmm,hfm,fnsv,fne,hrow,hrowE,hkl,hRl,n3]; rfl)
    refine ⟨?_,?_,?_,?_,?_,?_,rfl,?_,hfm,?_,?_,?_,?_,?_,fun _=>?_,?_,?_,?_,?_,?_,fun h=>by obtain ⟨i2,k⟩:=c11 (by rwa [upL_ne LL (by decide)] at h); first | exact ⟨i2,k⟩ | (refine ⟨i2,?_⟩; simp (disch:=omega) [k] <;> omega),fun h=>by obtain ⟨i1,k⟩:=c12 (by rwa [upL_ne LL (by decide)] at h); first | exact ⟨i1,k⟩ | (refine ⟨i1,?_⟩; simp (disch:=omega) [k] <;> omega),?_,fun h=>by obtain ⟨i1,k⟩:=c14 (by rwa [upL_ne LL (by decide)] at h); first | exact ⟨i1,k⟩ | (refine ⟨i1,?_⟩; simp (disch:=omega) [k] <;> omega),fun h=>nsv (by rw [upL_ne LL (by decide)] at h; exact h),?_⟩ <;> first|omega|assumption|(simp (disch:=omega) [b2,b3,b5,b17,b18,b6,hmm,hfm,fnsv,fne,hrow,hrowE,hkl,hRl,n3,upL] <;> first|assumption|omega)
   ·have fnsv:=nsv (hC.not (hC.not hxx (k:=7) rfl (by simp [pre,Region.binds])) (k:=12) rfl (by simp [pre,Region.binds]))
    have fne:=ne (hC.not hxx (k:=14) rfl (by simp [pre,Region.binds]))
    refine .e ?_ (by simp (disch:=first|exact zd|fail) [if_pos,b2,b3,b5,b17,b18,b6,hmm,hfm,fnsv,fne,hrow,hrowE,hkl,hRl,n3]; rfl)
    refine ⟨?_,?_,?_,?_,?_,?_,rfl,?_,hfm,?_,?_,?_,?_,?_,?_,fun _=>?_,?_,?_,?_,?_,fun h=>by obtain ⟨i2,k⟩:=c11 (by rwa [upL_ne LL (by decide)] at h); first | exact ⟨i2,k⟩ | (refine ⟨i2,?_⟩; simp (disch:=omega) [k] <;> omega),fun h=>by obtain ⟨i1,k⟩:=c12 (by rwa [upL_ne LL (by decide)] at h); first | exact ⟨i1,k⟩ | (refine ⟨i1,?_⟩; simp (disch:=omega) [k] <;> omega),?_,fun h=>by obtain ⟨i1,k⟩:=c14 (by rwa [upL_ne LL (by decide)] at h); first | exact ⟨i1,k⟩ | (refine ⟨i1,?_⟩; simp (disch:=omega) [k] <;> omega),fun h=>nsv (by rw [upL_ne LL (by decide)] at h; exact h),?_⟩ <;> first|omega|assumption|(simp (disch:=omega) [b2,b3,b5,b17,b18,b6,hmm,hfm,fnsv,fne,hrow,hrowE,hkl,hRl,n3,upL] <;> first|assumption|omega)
   ·have fc3:=c3 (hpp 3 (by simp [pre,Region.binds]))
    have fc5:=c5 (hpp 5 (by simp [pre,Region.binds]))
    have fc6:=c6 (hpp 6 (by simp [pre,Region.binds]))
    have fnsv:=nsv (hC.not hxx (k:=12) rfl (by simp [pre,Region.binds]))
    have fne:=ne (hC.not hxx (k:=14) rfl (by simp [pre,Region.binds]))
    refine .f fcF hb114 ?_ (ha:=by simp (disch:=first|exact zd|fail) [idf_Wd',if_pos,b2,b3,b5,b17,b18,b6,hmm,hfm,fc3,fc5,fc6,fnsv,fne,hrow,hrowE,hkl,hRl,n3])
    refine AOPS.nil ?_
    refine ⟨?_,?_,?_,?_,?_,?_,rfl,?_,hfm,?_,?_,?_,?_,?_,?_,?_,fun _=>?_,?_,?_,?_,fun h=>by obtain ⟨i2,k⟩:=c11 (by rwa [upL_ne LL (by decide)] at h); first | exact ⟨i2,k⟩ | (refine ⟨i2,?_⟩; simp (disch:=omega) [k] <;> omega),fun h=>by obtain ⟨i1,k⟩:=c12 (by rwa [upL_ne LL (by decide)] at h); first | exact ⟨i1,k⟩ | (refine ⟨i1,?_⟩; simp (disch:=omega) [k] <;> omega),?_,fun h=>by obtain ⟨i1,k⟩:=c14 (by rwa [upL_ne LL (by decide)] at h); first | exact ⟨i1,k⟩ | (refine ⟨i1,?_⟩; simp (disch:=omega) [k] <;> omega),fun h=>nsv (by rw [upL_ne LL (by decide)] at h; exact h),?_⟩ <;> first|omega|assumption|(simp (disch:=omega) [b2,b3,b5,b17,b18,b6,hmm,hfm,fc3,fc5,fc6,fnsv,fne,hrow,hrowE,hkl,hRl,n3,upL] <;> first|assumption|omega)
   ·have fc4:=c4 (hpp 4 (by simp [pre,Region.binds]))
    have fc7:=c7 (hpp 7 (by simp [pre,Region.binds]))
    have fnsv:=nsv (hC.not (hC.not hxx (k:=9) rfl (by simp [pre,Region.binds])) (k:=12) rfl (by simp [pre,Region.binds]))
    have fne:=ne (hC.not hxx (k:=14) rfl (by simp [pre,Region.binds]))
    refine .e ?_ (by simp (disch:=first|exact zd|fail) [if_pos,b2,b3,b5,b17,b18,b6,hmm,hfm,fc4,fc7,fnsv,fne,hrow,hrowE,hkl,hRl,n3]; rfl)
    refine ⟨?_,?_,?_,?_,?_,?_,rfl,?_,hfm,?_,?_,?_,?_,?_,?_,?_,?_,fun _=>?_,?_,?_,fun h=>by obtain ⟨i2,k⟩:=c11 (by rwa [upL_ne LL (by decide)] at h); first | exact ⟨i2,k⟩ | (refine ⟨i2,?_⟩; simp (disch:=omega) [k] <;> omega),fun h=>by obtain ⟨i1,k⟩:=c12 (by rwa [upL_ne LL (by decide)] at h); first | exact ⟨i1,k⟩ | (refine ⟨i1,?_⟩; simp (disch:=omega) [k] <;> omega),?_,fun h=>by obtain ⟨i1,k⟩:=c14 (by rwa [upL_ne LL (by decide)] at h); first | exact ⟨i1,k⟩ | (refine ⟨i1,?_⟩; simp (disch:=omega) [k] <;> omega),fun h=>nsv (by rw [upL_ne LL (by decide)] at h; exact h),?_⟩ <;> first|omega|assumption|(simp (disch:=omega) [b2,b3,b5,b17,b18,b6,hmm,hfm,fc4,fc7,fnsv,fne,hrow,hrowE,hkl,hRl,n3,upL] <;> first|assumption|omega)
   ·have fc8:=c8 (hpp 8 (by simp [pre,Region.binds]))
    have fnsv:=nsv (hC.not hxx (k:=12) rfl (by simp [pre,Region.binds]))
    have fne:=ne (hC.not hxx (k:=14) rfl (by simp [pre,Region.binds]))
    refine .e ?_ (by simp (disch:=first|exact zd|fail) [if_pos,b2,b3,b5,b17,b18,b6,hmm,hfm,fc8,fnsv,fne,hrow,hrowE,hkl,hRl,n3]; rfl)
    refine ⟨?_,?_,?_,?_,?_,?_,rfl,?_,hfm,?_,?_,?_,?_,?_,?_,?_,?_,?_,fun _=>?_,?_,fun h=>by obtain ⟨i2,k⟩:=c11 (by rwa [upL_ne LL (by decide)] at h); first | exact ⟨i2,k⟩ | (refine ⟨i2,?_⟩; simp (disch:=omega) [k] <;> omega),fun h=>by obtain ⟨i1,k⟩:=c12 (by rwa [upL_ne LL (by decide)] at h); first | exact ⟨i1,k⟩ | (refine ⟨i1,?_⟩; simp (disch:=omega) [k] <;> omega),?_,fun h=>by obtain ⟨i1,k⟩:=c14 (by rwa [upL_ne LL (by decide)] at h); first | exact ⟨i1,k⟩ | (refine ⟨i1,?_⟩; simp (disch:=omega) [k] <;> omega),fun h=>nsv (by rw [upL_ne LL (by decide)] at h; exact h),?_⟩ <;> first|omega|assumption|(simp (disch:=omega) [b2,b3,b5,b17,b18,b6,hmm,hfm,fc8,fnsv,fne,hrow,hrowE,hkl,hRl,n3,upL] <;> first|assumption|omega)
   ·have fnsv:=nsv (hC.not (hC.not hxx (k:=11) rfl (by simp [pre,Region.binds])) (k:=12) rfl (by simp [pre,Region.binds]))
    have fne:=ne (hC.not hxx (k:=14) rfl (by simp [pre,Region.binds]))
    refine .e ?_ (by simp (disch:=first|exact zd|fail) [if_pos,b2,b3,b5,b17,b18,b6,hmm,hfm,fnsv,fne,hrow,hrowE,hkl,hRl,n3]; rfl)
    refine ⟨?_,?_,?_,?_,?_,?_,rfl,?_,hfm,?_,?_,?_,?_,?_,?_,?_,?_,?_,?_,fun _=>?_,fun h=>by obtain ⟨i2,k⟩:=c11 (by rwa [upL_ne LL (by decide)] at h); first | exact ⟨i2,k⟩ | (refine ⟨i2,?_⟩; simp (disch:=omega) [k] <;> omega),fun h=>by obtain ⟨i1,k⟩:=c12 (by rwa [upL_ne LL (by decide)] at h); first | exact ⟨i1,k⟩ | (refine ⟨i1,?_⟩; simp (disch:=omega) [k] <;> omega),?_,fun h=>by obtain ⟨i1,k⟩:=c14 (by rwa [upL_ne LL (by decide)] at h); first | exact ⟨i1,k⟩ | (refine ⟨i1,?_⟩; simp (disch:=omega) [k] <;> omega),fun h=>nsv (by rw [upL_ne LL (by decide)] at h; exact h),?_⟩ <;> first|omega|assumption|(simp (disch:=omega) [b2,b3,b5,b17,b18,b6,hmm,hfm,fnsv,fne,hrow,hrowE,hkl,hRl,n3,upL] <;> first|assumption|omega)
   ·have fc10:=c10 (hpp 10 (by simp [pre,Region.binds]))
    have fnsv:=nsv (hC.not hxx (k:=12) rfl (by simp [pre,Region.binds]))
    have fne:=ne (hC.not hxx (k:=14) rfl (by simp [pre,Region.binds]))
    refine .e ?_ (by simp (disch:=first|exact zd|fail) [if_pos,b2,b3,b5,b17,b18,b6,hmm,hfm,fc10,fnsv,fne,hrow,hrowE,hkl,hRl,n3]; rfl)
    refine ⟨?_,?_,?_,?_,?_,?_,rfl,?_,fun q a b c d=>by simp (disch:=omega) [hfm q a b c d],?_,?_,?_,?_,?_,?_,?_,?_,?_,?_,?_,fun _=>⟨mm,by simp (disch:=omega) <;> first | omega | assumption⟩,fun h=>by obtain ⟨i1,k⟩:=c12 (by rwa [upL_ne LL (by decide)] at h); first | exact ⟨i1,k⟩ | (refine ⟨i1,?_⟩; simp (disch:=omega) [k] <;> omega),?_,fun h=>by obtain ⟨i1,k⟩:=c14 (by rwa [upL_ne LL (by decide)] at h); first | exact ⟨i1,k⟩ | (refine ⟨i1,?_⟩; simp (disch:=omega) [k] <;> omega),fun h=>(nsv (by rw [upL_ne LL (by decide)] at h; exact h)).imp id fun ⟨a,b,c⟩=>⟨a,by have:=hpx.2; simp (disch:=omega) [b],c⟩,?_⟩ <;> first|omega|assumption|(simp (disch:=omega) [b2,b3,b5,b17,b18,b6,hmm,hfm,fc10,fnsv,fne,hrow,hrowE,hkl,hRl,n3,upL] <;> first|assumption|omega)
   ·have fc7:=c7 (hpp 7 (by simp [pre,Region.binds]))
    have fc9:=c9 (hpp 9 (by simp [pre,Region.binds]))
    have fc11:=c11 (hpp 11 (by simp [pre,Region.binds]))
    have fnsv:=nsv hxx
    have fne:=ne (hC.not hxx (k:=14) rfl (by simp [pre,Region.binds]))
    obtain ⟨i2,f32,fh2,fl2,fu2⟩:=id fc11
    obtain ⟨dd,hdd⟩ : ∃ dd : Option Nat,(dd = none ∧ sv = .nsl ∧ seg = [] ∧ px = io) ∨ (dd = some px ∧ sv = .osl px 0 seg.length ∧ H px = some (1,wd .i64 seg) ∧ px ≠ io):=by
      rcases fnsv with ⟨a,b,c⟩ | ⟨a,b,c⟩
      · exact ⟨none,.inl ⟨rfl,a,b,c⟩⟩
      · exact ⟨some px,.inr ⟨rfl,a,b,c⟩⟩
    refine AOPS.opapp (d:=dd) (z:=1) (es:=wd .i64 (seg ++ [(h : Int)])) ?_ (by simp) (by simp) ?_
    · have hw1 : ∀ l : List Int,(wd .i64 l).length = l.length:=fun l=>List.length_map _
      have htl : List.take seg.length (wd .i64 seg) = wd .i64 seg:=List.take_of_length_le (by rw [hw1]; exact Nat.le_refl _)
      have hq1 : (seg.length + 1) * 8 ≤ 140737488355328:=by omega
      have hq2 : seg.length ≤ 9223372036854775806:=by omega
      have ht1 : List.take 1 (wd .i64 [(h : Int)]) = wd .i64 [(h : Int)]:=rfl
      have hne1 : ¬ wd .i64 [(h : Int)] = []:=List.cons_ne_nil _ _
      rcases hdd with ⟨rfl,rfl,rfl,rfl⟩ | ⟨rfl,rfl,h3,h4⟩
      · simp (disch:=omega) [fc9,f32,fh2,ht1,wd_app2,hne1]; try rfl
      · simp (disch:=omega) [fc9,f32,fh2,wd_append,hw1,h3,htl,hq1,hq2,ht1,wd_app2]; try rfl
    have hdr : ∀ q,q ≠ px → hdrop H dd q = H q:=fun q hq=>by rcases hdd with ⟨rfl,_⟩ | ⟨rfl,_⟩ <;> simp [hdrop,hupd,hq]
    have hdi : hdrop H dd io = H io:=by rcases hdd with ⟨rfl,_⟩ | ⟨rfl,_,_,h⟩ <;> simp [hdrop,hupd]; intro h'; exact absurd h'.symm h
    simp only [puts_some]
    refine AOPS.nil ?_
    refine ⟨?_,?_,?_,?_,?_,?_,rfl,?_,fun q a b c d=>by simp (disch:=omega) [hdr q d,hfm q a b c d],?_,?_,?_,?_,?_,?_,?_,?_,?_,?_,?_,fun h=>by obtain ⟨i2,k⟩:=c11 (by rwa [upL_ne LL (by decide)] at h); first | exact ⟨i2,k⟩ | (refine ⟨i2,?_⟩; simp (disch:=omega) [k,hdr,hdi] <;> omega),fun _=>⟨mm,by simp (disch:=omega) <;> first | omega | assumption⟩,?_,fun h=>by obtain ⟨i1,k⟩:=c14 (by rwa [upL_ne LL (by decide)] at h); first | exact ⟨i1,k⟩ | (refine ⟨i1,?_⟩; simp (disch:=omega) [k,hdr,hdi] <;> omega),fun h=>by simp [upL] at h,?_⟩ <;> first|omega|assumption|(simp (disch:=omega) [b2,b3,b5,b17,b18,b6,hmm,hfm,fc7,fc9,fc11,fnsv,fne,hdr,hdi,hrow,hrowE,hkl,hRl,n3,upL] <;> first|assumption|omega)
   ·have fc0:=c0 (hpp 0 (by simp [pre,Region.binds]))
    have fc1:=c1 (hpp 1 (by simp [pre,Region.binds]))
    have fc2:=c2 (hpp 2 (by simp [pre,Region.binds]))
    have fc3:=c3 (hpp 3 (by simp [pre,Region.binds]))
    have fc4:=c4 (hpp 4 (by simp [pre,Region.binds]))
    have fc5:=c5 (hpp 5 (by simp [pre,Region.binds]))
    have fc6:=c6 (hpp 6 (by simp [pre,Region.binds]))
    have fc7:=c7 (hpp 7 (by simp [pre,Region.binds]))
    have fc8:=c8 (hpp 8 (by simp [pre,Region.binds]))
    have fc9:=c9 (hpp 9 (by simp [pre,Region.binds]))
    have fc10:=c10 (hpp 10 (by simp [pre,Region.binds]))
    have fc11:=c11 (hpp 11 (by simp [pre,Region.binds]))
    have fc12:=c12 (hpp 12 (by simp [pre,Region.binds]))
    have fne:=ne (hC.not hxx (k:=14) rfl (by simp [pre,Region.binds]))
    refine .e ?_ (by simp (disch:=first|exact zd|fail) [if_pos,b2,b3,b5,b17,b18,b6,hmm,hfm,fc0,fc1,fc2,fc3,fc4,fc5,fc6,fc7,fc8,fc9,fc10,fc11,fc12,fne,hrow,hrowE,hkl,hRl,n3]; rfl)
    refine ⟨?_,?_,?_,?_,?_,?_,rfl,?_,hfm,?_,?_,?_,?_,?_,?_,?_,?_,?_,?_,?_,fun h=>by obtain ⟨i2,k⟩:=c11 (by rwa [upL_ne LL (by decide)] at h); first | exact ⟨i2,k⟩ | (refine ⟨i2,?_⟩; simp (disch:=omega) [k] <;> omega),fun h=>by obtain ⟨i1,k⟩:=c12 (by rwa [upL_ne LL (by decide)] at h); first | exact ⟨i1,k⟩ | (refine ⟨i1,?_⟩; simp (disch:=omega) [k] <;> omega),fun _=>?_,fun h=>by obtain ⟨i1,k⟩:=c14 (by rwa [upL_ne LL (by decide)] at h); first | exact ⟨i1,k⟩ | (refine ⟨i1,?_⟩; simp (disch:=omega) [k] <;> omega),fun h=>nsv (by rw [upL_ne LL (by decide)] at h; exact h),?_⟩ <;> first|omega|assumption|(simp (disch:=omega) [b2,b3,b5,b17,b18,b6,hmm,hfm,fc0,fc1,fc2,fc3,fc4,fc5,fc6,fc7,fc8,fc9,fc10,fc11,fc12,fne,hrow,hrowE,hkl,hRl,n3,upL] <;> first|assumption|omega)
   ·have fc0:=c0 (hpp 0 (by simp [pre,Region.binds]))
    have fc1:=c1 (hpp 1 (by simp [pre,Region.binds]))
    have fc2:=c2 (hpp 2 (by simp [pre,Region.binds]))
    have fc3:=c3 (hpp 3 (by simp [pre,Region.binds]))
    have fc4:=c4 (hpp 4 (by simp [pre,Region.binds]))
    have fc5:=c5 (hpp 5 (by simp [pre,Region.binds]))
    have fc6:=c6 (hpp 6 (by simp [pre,Region.binds]))
    have fc7:=c7 (hpp 7 (by simp [pre,Region.binds]))
    have fc8:=c8 (hpp 8 (by simp [pre,Region.binds]))
    have fc9:=c9 (hpp 9 (by simp [pre,Region.binds]))
    have fc10:=c10 (hpp 10 (by simp [pre,Region.binds]))
    have fc11:=c11 (hpp 11 (by simp [pre,Region.binds]))
    have fc12:=c12 (hpp 12 (by simp [pre,Region.binds]))
    have fc13:=c13 (hpp 13 (by simp [pre,Region.binds]))
    have fne:=ne hxx
    obtain ⟨i1,f33,fh1,fl1,fu1⟩:=id fc12
    refine .e ?_ (by simp (disch:=first|exact zd|fail) [if_pos,b2,b3,b5,b17,b18,b6,hmm,hfm,fc0,fc1,fc2,fc3,fc4,fc5,fc6,fc7,fc8,fc9,fc10,fc11,fc12,fc13,fne,f33,fh1,hrow,hrowE,hkl,hRl,n3]; rfl)
    refine ⟨?_,?_,?_,?_,?_,?_,rfl,?_,fun q a b c d=>by simp (disch:=omega) [hfm q a b c d],?_,?_,?_,?_,?_,?_,?_,?_,?_,?_,?_,fun h=>by obtain ⟨i2,k⟩:=c11 (by rwa [upL_ne LL (by decide)] at h); first | exact ⟨i2,k⟩ | (refine ⟨i2,?_⟩; simp (disch:=omega) [k] <;> omega),fun h=>by obtain ⟨i1,k⟩:=c12 (by rwa [upL_ne LL (by decide)] at h); first | exact ⟨i1,k⟩ | (refine ⟨i1,?_⟩; simp (disch:=omega) [k] <;> omega),?_,fun _=>⟨i1,by simp (disch:=omega) [fh1,hrow] <;> first | omega | assumption⟩,fun h=>by rw [upL_ne LL (by decide),hpp 12 (by simp [pre,Region.binds])] at h; simp at h,fun h=>by simp [upL] at h⟩ <;> first|omega|assumption|(simp (disch:=omega) [b2,b3,b5,b17,b18,b6,hmm,hfm,fc0,fc1,fc2,fc3,fc4,fc5,fc6,fc7,fc8,fc9,fc10,fc11,fc12,fc13,fne,f33,fh1,hrow,hrowE,hkl,hRl,n3,upL] <;> first|assumption|omega)
  ·rintro LL ⟨e,H,mm,nt⟩ hL ⟨b2,b3,b5,b17,b18,b6,hnt,hmm,hfm,c0,c1,c2,c3,c4,c5,c6,c7,c8,c9,c10,c11,c12,c13,c14,nsv,ne⟩
   replace c0:=c0 (hL 0 (by simp))
   replace c1:=c1 (hL 1 (by simp))
   replace c2:=c2 (hL 2 (by simp))
   replace c3:=c3 (hL 3 (by simp))
   replace c4:=c4 (hL 4 (by simp))
   replace c5:=c5 (hL 5 (by simp))
   replace c6:=c6 (hL 6 (by simp))
   replace c7:=c7 (hL 7 (by simp))
   replace c8:=c8 (hL 8 (by simp))
   replace c9:=c9 (hL 9 (by simp))
   replace c10:=c10 (hL 10 (by simp))
   replace c11:=c11 (hL 11 (by simp))
   replace c12:=c12 (hL 12 (by simp))
   replace c13:=c13 (hL 13 (by simp))
   replace c14:=c14 (hL 14 (by simp))
   clear nsv ne
   simp only [] at b2 b3 b5 b17 b18 b6 hnt hmm hfm c0 c1 c2 c3 c4 c5 c6 c7 c8 c9 c10 c11 c12 c13 c14
   subst hnt
   obtain ⟨i1,hie1,hi1,xi1,yi1⟩:=c14
   have hAr' : ArN H nx mm io (fsx f v0 i1) (fun v=>bkt L v (h + 1)) (hitP L).length:=by
     refine (hAr.push (l:=bkt L v0 h ++ [h]) n3 (by simp) (by omega) yi1 (by rw [hi1,hsg]; simp) (by rw [hie1,hR,hsl]; simp) (fun q a b c d=>by
       have hq : q ≠ px:=by rcases hpf with ⟨_,e⟩ | ⟨he,e⟩ <;> rw [e] <;> first | exact c | exact d he
       rw [hfm q a (by omega) c hq,hH0])).congr fun v _=>bkt_next n1 v
   refine hK7 _ ?_
   refine .r ?_ (by simp (disch:=first|exact zd|fail) [b18]; rfl)
   refine ⟨(2 * (edL L).length) - (h + 1),by omega,h + 1,fsx f v0 i1,io,rfl,by omega,hAr',?_,?_,?_,?_,?_,rfl⟩ <;> first|(simp (disch:=omega) [b2,b3,b5,b17,b18,b6];done)|omega|(simp;done)|(simp;omega)
 ·try simp only[dc]at h19
  have hin : h = 2 * (edL L).length:=by omega
  subst hin
  have hAr0 : ArN H nx mm io f (srj L 0) (hitP L).length:=hAr.congr fun v _=>by unfold srj; rw [if_neg (by omega)]
  refine .exit ?_
  refine hK3 _ ?_
  refine .q ?_ (by simp (disch:=first|exact zd|fail) [zoFn2]; rfl)
  refine AWP.frz1 7 mm 1 [[.fn 115 []]] (.ip [.fn 115 []]) (by simp (disch:=omega)) (by simp (disch:=omega) [fz]) ?_
  refine .sq fun K10 hK10=>?_
  have htop:=hAr.top
  have hixr:=hAr.ixr
  refine .q ?_ (by simp (disch:=first|exact zd|fail) [g5,htop]; rfl)
  refine .block ?_
  
  refine .loop (fun N s=>∃ j : Nat,N = (hitP L).length - j ∧ j ≤ (hitP L).length ∧ (ArN s.heap nx s.nx io f (srj L j) (hitP L).length) ∧ s.env 2 = .ip [.isl ((hitP L).map cellsG),.isl ((edL L).map edC)] ∧ s.env 3 = .ip [.isl (L.map Sg.cells)] ∧ s.env 5 = .osl io 0 (hitP L).length ∧ s.env 7 = .ip [.fn 115 []] ∧ s.env 36 = .osl io 0 (hitP L).length ∧ s.env 37 = .int .i64 ((hitP L).length : Int) ∧ s.env 38 = .int .i64 (j : Int) ∧ s.nt = 47) ((hitP L).length) (by refine ⟨0,by omega,by omega,hAr0.to (by first|omega|(simp;done)|(simp;omega)) (fun q a b=>by simp (disch:=omega)),?_,?_,?_,?_,?_,?_,?_,rfl⟩ <;> first|(simp (disch:=omega) [g2,g3,g5,g17,g18];done)|omega|(simp;done)|(simp;omega)) ?_
  clear g2 g3 g5 g17 g18
  rintro N ⟨e,H,mm,nt⟩ ⟨j,rfl,hj,hAr,g2,g3,g5,g7,g36,g37,g38,rfl⟩
  simp only [] at g2 g3 g5 g7 g36 g37 g38
  simp only [] at hAr
  refine .q ?_ (by simp (disch:=first|exact zd|fail) [g37,g38]; rfl)
  refine .sq fun K13 hK13=>?_
  refine .c (fun h39=>?_) (fun h39=>?_)
  ·try simp only[dc]at h39
   have hj' : j < (hitP L).length:=by omega
   have hbn:=bkt_ne z2 hj'
   have hsj : srj L j j = bkt L j (2 * (edL L).length):=by unfold srj; rw [if_neg (by omega)]
   obtain ⟨r1,r2,r3,r4⟩:=hAr.row j hj' (by rw [hsj]; exact hbn)
   rw [hsj] at r4
   obtain ⟨len,hlen⟩ : ∃ n,(bkt L j (2 * (edL L).length)).length = n:=⟨_,rfl⟩
   have hl0 : 0 < len:=by rw [← hlen]; exact List.length_pos_iff.2 hbn
   have htop:=hAr.top
   have hget : (mkR (rowX f (srj L j)) (hitP L).length)[j]? = some [.osl (f j) 0 len]:=by rw [mkR_get _ hj']; simp [rowX,hsj,hbn,hlen]
   have hml:=mkR_len (rowX f (srj L j)) (hitP L).length
   generalize mkR (rowX f (srj L j)) (hitP L).length = ROWS at *
   have hgE : ∀ q : j < ROWS.length,ROWS[j] = [.osl (f j) 0 len]:=fun q=>by rw [List.getElem?_eq_getElem q] at hget; simpa using hget
   refine .skip ?_
   refine hK13 _ ?_
   refine .sq fun K14 hK14=>?_
   refine .block ?_
   refine .q ?_ (by simp (disch:=first|exact zd|fail) [if_pos,g36,g38,htop,hget,hgE,hml,hj']; rfl)
   refine .region ?_
   refine .k 2 ?_ (by simp (disch:=first|exact zd|fail) [List.take_succ_cons,List.take_zero,g2,g3,g7]; rfl)
   refine .a (srtH_ac L z2 eb1 j len (f j) H mm hlen r4 hl0) hb116 ?_ (ha:=by simp (disch:=first|exact zd|fail) [idf_Wd',g2,g3,g7])
   rintro _ H2 nx2 ⟨rfl,hH2,hn2⟩
   try simp only [] at hn2
   have hAr' : ArN H2 nx nx2 io f (srj L (j + 1)) (hitP L).length:=(hAr.perm (l:=arV L j) hj' (by rw [hsj]; exact hbn) (by rw [hsj]; exact arV_len L j) hn2 (by rw [hH2]; simp [hupd]) (fun q a b c=>by rw [hH2]; simp [hupd,c])).congr fun v _=>srj_next L j v
   refine .nil ?_
   refine hK14 _ ?_
   refine .r ?_ (by simp (disch:=first|exact zd|fail) [g38]; rfl)
   refine ⟨(hitP L).length - (j + 1),by omega,j + 1,rfl,by omega,hAr',?_,?_,?_,?_,?_,?_,?_,rfl⟩ <;> first|(simp (disch:=omega) [g2,g3,g5,g7,g36,g37,g38];done)|omega|(simp;done)|(simp;omega)
  ·try simp only[dc]at h39
   have hjn : j = (hitP L).length:=by omega
   subst hjn
   refine .exit ?_
   refine hK10 _ ?_
   refine .q ?_ (by simp (disch:=first|exact zd|fail) [g5]; rfl)
   refine .ret ?_
   exact hK _ _ _ _ _ trivial (Fin.m) (⟨io,f,rfl,hAr.congr fun v hv=>by unfold srj; rw [if_pos hv]⟩)

end Go.Proofs.YtjbbbkfdcegfmaaGreat

/- Walks: Around, DegreeOf: both, and the laws. -/
namespace Go.Proofs.YtjbbbkfdcegfmaaGreat
open Go Go.RowKit
set_option linter.unusedSimpArgs false
set_option linter.unusedVariables false
set_option maxRecDepth 100000
attribute [local simp] szT2 byT2 agT2 unT2 zoT2 szT3 byT3 agT3 unT3 zoT3 szT4 byT4 agT4 unT4 zoT4 szT24 byT24 agT24 elT24 unT24 zoT24 szT37 byT37 agT37 elT37 unT37 zoT37 szT38 byT38 agT38 elT38 unT38 zoT38 szT40 byT40 agT40 flT40 fdT40_0 fdT40_1 zoT40 szT62 byT62 agT62 flT62 fdT62_0 fdT62_1 fdT62_2 zoT62 szT76 byT76 agT76 elT76 unT76 zoT76 szT78 byT78 agT78 flT78 fdT78_0 fdT78_1 zoT78 szT94 byT94 agT94 elT94 unT94 zoT94 szT107 byT107 agT107 flT107 fdT107_0 fdT107_1 fdT107_2 zoT107 srT24 ixT24 lnT24 srT37 srT38 srT76 srT94

theorem hupd_none (id : Nat) : hupd (fun _=>none) id none = fun _=>none:=by funext i; simp [hupd]
theorem l9Around_fc (L : List Sg) (v : Nat) (hv : v < (hitP L).length) (z1 : L.length ≤ 40) : FC Tryz.prog 66 [.agg [.isl ((hitP L).map cellS),.isl ((edL L).map edC)],.int .i64 (v : Int)] (Wd .i64 (ni (arV L v))) :=
  FC.of_own (z:=1) (es:=wd .i64 (ni (arV L v))) (mk:=fun id=>.osl id 0 (arV L v).length) (by simp only [idfL,idf,edC_idfL,ptG_idfL,ptS_idfL,sg_idfL,and_self,and_true,true_and]; try trivial) (of_eq_true (idf_Wd' _ _)) (fun id=>by rw [← ni_len]; exact fz_wd rfl) fun nx=>l9Around_own L v hv z1 nx
section
attribute [local simp] idf_numS cells_numS numS_fold idf_numI cells_numI numI_fold Sp.av Sp.cells Sg.av Sg.cells
set_option maxHeartbeats 2000000 in
theorem aroundI_no (L : List Sg) (x : Int) (hl : L.length ≤ 1099511627776) (hz : ¬ (sgF L = 0 ∧ 0 ≤ x ∧ x ≤ ((hitP L).length : Int) - 1)) : FC Tryz.prog 27 [.isl (L.map Sg.cells),.int .i64 x] (.tup [.nsl,.bool false]):=by
 refine .b Tryz.func27 25 (fun nx K hK=>?_) (hi:=by simp [idfL,idf,idfLL_iff,Sg.cells,Pt.av,Pt.cells])
 refine .q ?_
 refine .sq fun K2 hK2=>?_
 refine .sq fun K3 hK3=>?_
 by_cases z : sgF L = 0
 ·obtain ⟨z1,z2⟩:=sgF_zero z
  have hd : decide (sgF L = 0) = true:=decide_eq_true z
  have hpb : (hitP L).length ≤ 1680:=hpb_of z
  have hw : (decide (0 ≤ x) && decide (x ≤ ((hitP L).length : Int) - 1)) = false:=by
    rw [Bool.and_eq_false_iff,decide_eq_false_iff_not,decide_eq_false_iff_not]; omega
  refine .region ?_
  refine .kf 1 (areSegs_fc L hl) hb61 ?_ (by simp (disch:=first|exact zd|fail) [List.take_succ_cons,List.take_zero,hd]; rfl) (ha:=by simp (disch:=first|exact zd|fail) [idf_Wd',hd])
  refine .e ?_ (by simp (disch:=first|exact zd|fail) [hd]; rfl)
  refine hK3 _ ?_
  refine .c (t:=false) (fun h9=>?_) (fun h9=>?_)
  ·simp at h9
  ·try simp only[dc]at h9
   refine .skip ?_
   refine hK2 _ ?_
   refine .sq fun K4 hK4=>?_
   refine .region ?_
   refine .kf 1 (plan_fc L z1 z2) hb63 ?_
   refine .e ?_
   refine hK4 _ ?_
   refine .sq fun K5 hK5=>?_
   refine .sq fun K6 hK6=>?_
   refine .region ?_
   refine .kf 5 (within_fc x 0 (((hitP L).length : Int) - 1)) hb62 ?_ (by simp (disch:=first|exact zd|fail) [List.take_succ_cons,List.take_zero,hw,List.length_map]; rfl) (ha:=by simp (disch:=first|exact zd|fail) [idf_Wd',hw,List.length_map])
   refine .e ?_ (by simp (disch:=first|exact zd|fail) [hw,List.length_map]; rfl)
   refine hK6 _ ?_
   refine .c (t:=true) (fun h18=>?_) (fun h18=>?_)
   ·try simp only[dc]at h18
    refine .q ?_
    refine .ret ?_
    exact hK _ _ _ _ trivial ((Fin.mk (by simp (disch:=omega) [aRes,aResL,aRes1]; try rfl)))
   ·simp at h18
 ·have hd : decide (sgF L = 0) = false:=decide_eq_false z
  refine .region ?_
  refine .kf 1 (areSegs_fc L hl) hb61 ?_ (by simp (disch:=first|exact zd|fail) [List.take_succ_cons,List.take_zero,hd]; rfl) (ha:=by simp (disch:=first|exact zd|fail) [idf_Wd',hd])
  refine .e ?_ (by simp (disch:=first|exact zd|fail) [hd]; rfl)
  refine hK3 _ ?_
  refine .c (t:=true) (fun h9=>?_) (fun h9=>?_)
  ·try simp only[dc]at h9
   refine .q ?_
   refine .ret ?_
   exact hK _ _ _ _ trivial ((Fin.mk (by simp (disch:=omega) [aRes,aResL,aRes1]; try rfl)))
  ·simp at h9
set_option maxHeartbeats 2000000 in
theorem aroundS_no (L : List Sg) (x : Int) (hl : L.length ≤ 1099511627776) (hz : ¬ (sgF L = 0 ∧ 0 ≤ x ∧ x ≤ ((hitP L).length : Int) - 1)) : FC Tryz.prog 26 [.isl (L.map Sg.cells),.int .i64 x] (.tup [.nsl,.bool false]):=by
 refine .b Tryz.func26 22 (fun nx K hK=>?_) (hi:=by simp [idfL,idf,idfLL_iff,Sg.cells,Pt.av,Pt.cells])
 refine .q ?_
 refine .sq fun K2 hK2=>?_
 refine .sq fun K3 hK3=>?_
 by_cases z : sgF L = 0
 ·obtain ⟨z1,z2⟩:=sgF_zero z
  have hd : decide (sgF L = 0) = true:=decide_eq_true z
  have hpb : (hitP L).length ≤ 1680:=hpb_of z
  have hw : (decide (0 ≤ x) && decide (x ≤ ((hitP L).length : Int) - 1)) = false:=by
    rw [Bool.and_eq_false_iff,decide_eq_false_iff_not,decide_eq_false_iff_not]; omega
  refine .region ?_
  refine .kf 1 (l7Ok_fc L hl) hb57 ?_ (by simp (disch:=first|exact zd|fail) [List.take_succ_cons,List.take_zero,hd]; rfl) (ha:=by simp (disch:=first|exact zd|fail) [idf_Wd',hd])
  refine .e ?_ (by simp (disch:=first|exact zd|fail) [hd]; rfl)
  refine hK3 _ ?_
  refine .c (t:=false) (fun h9=>?_) (fun h9=>?_)
  ·simp at h9
  ·try simp only[dc]at h9
   refine .skip ?_
   refine hK2 _ ?_
   refine .sq fun K4 hK4=>?_
   refine .region ?_
   refine .kf 1 (l9Plan_fc L z1 z2) hb59 ?_
   refine .e ?_
   refine hK4 _ ?_
   refine .sq fun K5 hK5=>?_
   refine .sq fun K6 hK6=>?_
   refine .region ?_
   refine .kf 5 (l1In_fc x 0 (((hitP L).length : Int) - 1)) hb58 ?_ (by simp (disch:=first|exact zd|fail) [List.take_succ_cons,List.take_zero,hw,List.length_map]; rfl) (ha:=by simp (disch:=first|exact zd|fail) [idf_Wd',hw,List.length_map])
   refine .e ?_ (by simp (disch:=first|exact zd|fail) [hw,List.length_map]; rfl)
   refine hK6 _ ?_
   refine .c (t:=true) (fun h18=>?_) (fun h18=>?_)
   ·try simp only[dc]at h18
    refine .q ?_
    refine .ret ?_
    exact hK _ _ _ _ trivial ((Fin.mk (by simp (disch:=omega) [aRes,aResL,aRes1]; try rfl)))
   ·simp at h18
 ·have hd : decide (sgF L = 0) = false:=decide_eq_false z
  refine .region ?_
  refine .kf 1 (l7Ok_fc L hl) hb57 ?_ (by simp (disch:=first|exact zd|fail) [List.take_succ_cons,List.take_zero,hd]; rfl) (ha:=by simp (disch:=first|exact zd|fail) [idf_Wd',hd])
  refine .e ?_ (by simp (disch:=first|exact zd|fail) [hd]; rfl)
  refine hK3 _ ?_
  refine .c (t:=true) (fun h9=>?_) (fun h9=>?_)
  ·try simp only[dc]at h9
   refine .q ?_
   refine .ret ?_
   exact hK _ _ _ _ trivial ((Fin.mk (by simp (disch:=omega) [aRes,aResL,aRes1]; try rfl)))
  ·simp at h9
set_option maxHeartbeats 4000000 in
theorem aroundI_own (L : List Sg) (x : Int) (hl : L.length ≤ 1099511627776) (hz : sgF L = 0) (hx : 0 ≤ x ∧ x ≤ ((hitP L).length : Int) - 1) (nx : Nat) : ACall Tryz.prog 27 [.isl (L.map Sg.cells),.int .i64 x] (fun _=>none) nx (own1 nx 1 (wd .i64 (ni (arV L x.toNat))) (fun id=>.tup [.osl id 0 (arV L x.toNat).length,.bool true])):=by
 obtain ⟨z1,z2⟩:=sgF_zero hz
 have hd : decide (sgF L = 0) = true:=decide_eq_true hz
 have hpb : (hitP L).length ≤ 1680:=hpb_of hz
 have hw : (decide (0 ≤ x) && decide (x ≤ ((hitP L).length : Int) - 1)) = true:=by simp; omega
 obtain ⟨v,rfl⟩ : ∃ v : Nat,x = (v : Int):=⟨x.toNat,by omega⟩
 have hv : v < (hitP L).length:=by omega
 rw [Int.toNat_natCast]
 have fw:=within_fc (v : Int) 0 (((hitP L).length : Int) - 1)
 rw [hw] at fw
 refine .b Tryz.func27 25 fun K hK=>?_
 refine .q ?_
 refine .sq fun K2 hK2=>?_
 refine .sq fun K3 hK3=>?_
 refine .region ?_
 refine .kf 1 (areSegs_fc L hl) hb61 ?_ (by simp (disch:=first|exact zd|fail) [List.take_succ_cons,List.take_zero,hd]; rfl) (ha:=by simp (disch:=first|exact zd|fail) [idf_Wd',hd])
 refine .e ?_ (by simp (disch:=first|exact zd|fail) [hd]; rfl)
 refine hK3 _ ?_
 refine .c (t:=false) (fun h9=>?_) (fun h9=>?_)
 ·simp at h9
 ·try simp only[dc]at h9
  refine .skip ?_
  refine hK2 _ ?_
  refine .sq fun K4 hK4=>?_
  refine .region ?_
  refine .kf 1 (plan_fc L z1 z2) hb63 ?_
  refine .e ?_
  refine hK4 _ ?_
  refine .sq fun K5 hK5=>?_
  refine .sq fun K6 hK6=>?_
  refine .region ?_
  refine .kf 5 fw hb62 ?_ (by simp (disch:=first|exact zd|fail) [List.take_succ_cons,List.take_zero,List.length_map]; rfl) (ha:=by simp (disch:=first|exact zd|fail) [idf_Wd',List.length_map])
  refine .e ?_ (by simp (disch:=first|exact zd|fail) [List.length_map]; rfl)
  refine hK6 _ ?_
  refine .c (t:=false) (fun h18=>?_) (fun h18=>?_)
  ·simp at h18
  ·try simp only[dc]at h18
   refine .skip ?_
   refine hK5 _ ?_
   refine .sq fun K7 hK7=>?_
   refine AWP.frz1 6 nx 2 [[.isl ((hitP L).map cellsG),.isl ((edL L).map edC)]] (.ip [.isl ((hitP L).map cellsG),.isl ((edL L).map edC)]) (by simp (disch:=omega)) (by simp (disch:=omega) [fz]) ?_
   simp only [hupd_same,hupd_none]
   refine .region ?_
   refine .k 2 ?_ (by simp (disch:=first|exact zd|fail) [List.take_succ_cons,List.take_zero,if_pos]; rfl)
   refine .a (around_ac L z1 z2 (nx + 1)) hb67 ?_ (ha:=by simp (disch:=first|exact zd|fail) [idf_Wd',if_pos])
   rintro _ H2 nx2 ⟨io,f,rfl,hAr⟩
   have hne : arV L v ≠ []:=fun e=>bkt_ne z2 hv (List.length_eq_zero_iff.1 (by rw [← arV_len,e]; rfl))
   obtain ⟨r1,r2,r3,r4⟩:=hAr.row v hv hne
   have htop:=hAr.top
   obtain ⟨len,hlen⟩ : ∃ n,(arV L v).length = n:=⟨_,rfl⟩
   have hget : (mkR (rowX f (arV L)) (hitP L).length)[v]? = some [.osl (f v) 0 len]:=by rw [mkR_get _ hv]; simp [rowX,hne,hlen]
   have hml:=mkR_len (rowX f (arV L)) (hitP L).length
   generalize mkR (rowX f (arV L)) (hitP L).length = ROWS at *
   have hgE : ∀ q : v < ROWS.length,ROWS[v] = [.osl (f v) 0 len]:=fun q=>by rw [List.getElem?_eq_getElem q] at hget; simpa using hget
   refine .e ?_ (by simp (disch:=first|exact zd|fail) [if_pos,htop,hget,hgE,hml,hv]; rfl)
   refine hK7 _ ?_
   refine .ret ?_
   exact hK _ _ _ _ _ trivial (Fin.own1 (Fin.mk (by simp (disch:=omega) [aRes,aResL,aRes1]; try rfl)) (id:=f v) (z:=1) (es:=wd .i64 (ni (arV L v))) (by simp only []; exact r4)) (⟨f v,by omega,by first|omega|(simp;omega),by rw [hlen],rfl⟩)
set_option maxHeartbeats 2000000 in
theorem aroundS_fc (L : List Sg) (x : Int) (hl : L.length ≤ 1099511627776) (hz : sgF L = 0) (hx : 0 ≤ x ∧ x ≤ ((hitP L).length : Int) - 1) : FC Tryz.prog 26 [.isl (L.map Sg.cells),.int .i64 x] (.tup [Wd .i64 (ni (arV L x.toNat)),.bool true]):=by
 obtain ⟨z1,z2⟩:=sgF_zero hz
 have hd : decide (sgF L = 0) = true:=decide_eq_true hz
 have hpb : (hitP L).length ≤ 1680:=hpb_of hz
 have hw : (decide (0 ≤ x) && decide (x ≤ ((hitP L).length : Int) - 1)) = true:=by simp; omega
 obtain ⟨v,rfl⟩ : ∃ v : Nat,x = (v : Int):=⟨x.toNat,by omega⟩
 have hv : v < (hitP L).length:=by omega
 rw [Int.toNat_natCast]
 have fw:=l1In_fc (v : Int) 0 (((hitP L).length : Int) - 1)
 rw [hw] at fw
 refine .b Tryz.func26 22 (fun nx K hK=>?_) (hi:=by simp [idfL,idf,idfLL_iff,Sg.cells,Pt.av,Pt.cells])
 refine .q ?_
 refine .sq fun K2 hK2=>?_
 refine .sq fun K3 hK3=>?_
 refine .region ?_
 refine .kf 1 (l7Ok_fc L hl) hb57 ?_ (by simp (disch:=first|exact zd|fail) [List.take_succ_cons,List.take_zero,hd]; rfl) (ha:=by simp (disch:=first|exact zd|fail) [idf_Wd',hd])
 refine .e ?_ (by simp (disch:=first|exact zd|fail) [hd]; rfl)
 refine hK3 _ ?_
 refine .c (t:=false) (fun h9=>?_) (fun h9=>?_)
 ·simp at h9
 ·try simp only[dc]at h9
  refine .skip ?_
  refine hK2 _ ?_
  refine .sq fun K4 hK4=>?_
  refine .region ?_
  refine .kf 1 (l9Plan_fc L z1 z2) hb59 ?_
  refine .e ?_
  refine hK4 _ ?_
  refine .sq fun K5 hK5=>?_
  refine .sq fun K6 hK6=>?_
  refine .region ?_
  refine .kf 5 fw hb58 ?_ (by simp (disch:=first|exact zd|fail) [List.take_succ_cons,List.take_zero,List.length_map]; rfl) (ha:=by simp (disch:=first|exact zd|fail) [idf_Wd',List.length_map])
  refine .e ?_ (by simp (disch:=first|exact zd|fail) [List.length_map]; rfl)
  refine hK6 _ ?_
  refine .c (t:=false) (fun h18=>?_) (fun h18=>?_)
  ·simp at h18
  ·try simp only[dc]at h18
   refine .skip ?_
   refine hK5 _ ?_
   refine .sq fun K7 hK7=>?_
   refine .region ?_
   refine .kf 2 (l9Around_fc L v hv z1) hb66 ?_
   refine .e ?_
   refine hK7 _ ?_
   refine .ret ?_
   exact hK _ _ _ _ trivial ((Fin.mk (by simp (disch:=omega) [aRes,aResL,aRes1]; try rfl)))
end
section
attribute [local simp] idf_numS cells_numS numS_fold idf_numI cells_numI numI_fold
end
end Go.Proofs.YtjbbbkfdcegfmaaGreat

/- Walks: DegreeOf: both, and the law. -/
namespace Go.Proofs.YtjbbbkfdcegfmaaGreat
open Go Go.RowKit
set_option linter.unusedSimpArgs false
set_option linter.unusedVariables false
set_option maxRecDepth 100000
attribute [local simp] szT2 byT2 agT2 unT2 zoT2 szT3 byT3 agT3 unT3 zoT3 szT24 byT24 agT24 elT24 unT24 zoT24 srT24 ixT24 lnT24

theorem aroundI_fc (L : List Sg) (x : Int) (hl : L.length ≤ 1099511627776) (hz : sgF L = 0) (hx : 0 ≤ x ∧ x ≤ ((hitP L).length : Int) - 1) : FC Tryz.prog 27 [.isl (L.map Sg.cells),.int .i64 x] (.tup [Wd .i64 (ni (arV L x.toNat)),.bool true]) :=
  FC.of_own (z:=1) (es:=wd .i64 (ni (arV L x.toNat))) (mk:=fun id=>.tup [.osl id 0 (arV L x.toNat).length,.bool true]) (by simp [idfL,idf,idfLL_iff,Sg.cells]) (by simp [idf,idfL,idf_Wd']) (fun id=>by rw [fz,fzL,fzL,fzL,← ni_len,fz_wd rfl]; rfl) fun nx=>aroundI_own L x hl hz hx nx
section
attribute [local simp] idf_numS cells_numS numS_fold idf_numI cells_numI numI_fold Sp.av Sp.cells Sg.av Sg.cells
set_option maxHeartbeats 1000000 in
theorem degI_yes (L : List Sg) (x : Int) (hl : L.length ≤ 1099511627776) (hz : sgF L = 0) (hx : 0 ≤ x ∧ x ≤ ((hitP L).length : Int) - 1) : FC Tryz.prog 25 [.isl (L.map Sg.cells),.int .i64 x] (.int .i64 ((arV L x.toNat).length : Int)):=by
 refine .b Tryz.func25 17 (fun nx K hK=>?_) (hi:=by simp [idfL,idf,idfLL_iff,Sg.cells,Pt.av,Pt.cells])
 refine .q ?_
 refine .sq fun K2 hK2=>?_
 refine .region ?_
 refine .kf 2 (aroundI_fc L x hl hz hx) hb27 ?_
 refine .e ?_
 refine hK2 _ ?_
 refine .sq fun K3 hK3=>?_
 refine .q ?_
 refine .c (t:=false) (fun h14=>?_) (fun h14=>?_)
 ·simp at h14
 ·try simp only[dc]at h14
  refine .skip ?_
  refine hK3 _ ?_
  refine .q ?_ (by simp (disch:=first|exact zd|fail) [ni_len]; rfl)
  refine .ret ?_
  exact hK _ _ _ _ trivial ((Fin.mk (by simp (disch:=omega) [aRes,aResL,aRes1]; try rfl)))
set_option maxHeartbeats 1000000 in
theorem degI_no (L : List Sg) (x : Int) (hl : L.length ≤ 1099511627776) (hz : ¬ (sgF L = 0 ∧ 0 ≤ x ∧ x ≤ ((hitP L).length : Int) - 1)) : FC Tryz.prog 25 [.isl (L.map Sg.cells),.int .i64 x] (.int .i64 (-1)):=by
 refine .b Tryz.func25 17 (fun nx K hK=>?_) (hi:=by simp [idfL,idf,idfLL_iff,Sg.cells,Pt.av,Pt.cells])
 refine .q ?_
 refine .sq fun K2 hK2=>?_
 refine .region ?_
 refine .kf 2 (aroundI_no L x hl hz) hb27 ?_
 refine .e ?_
 refine hK2 _ ?_
 refine .sq fun K3 hK3=>?_
 refine .q ?_
 refine .c (t:=true) (fun h14=>?_) (fun h14=>?_)
 ·try simp only[dc]at h14
  refine .q ?_
  refine .ret ?_
  exact hK _ _ _ _ trivial ((Fin.mk (by simp (disch:=omega) [aRes,aResL,aRes1]; try rfl)))
 ·simp at h14
set_option maxHeartbeats 1000000 in
theorem degS_yes (L : List Sg) (x : Int) (hl : L.length ≤ 1099511627776) (hz : sgF L = 0) (hx : 0 ≤ x ∧ x ≤ ((hitP L).length : Int) - 1) : FC Tryz.prog 24 [.isl (L.map Sg.cells),.int .i64 x] (.int .i64 ((arV L x.toNat).length : Int)):=by
 refine .b Tryz.func24 17 (fun nx K hK=>?_) (hi:=by simp [idfL,idf,idfLL_iff,Sg.cells,Pt.av,Pt.cells])
 refine .q ?_
 refine .sq fun K2 hK2=>?_
 refine .region ?_
 refine .kf 2 (aroundS_fc L x hl hz hx) hb26 ?_
 refine .e ?_
 refine hK2 _ ?_
 refine .sq fun K3 hK3=>?_
 refine .q ?_
 refine .c (t:=false) (fun h14=>?_) (fun h14=>?_)
 ·simp at h14
 ·try simp only[dc]at h14
  refine .skip ?_
  refine hK3 _ ?_
  refine .q ?_ (by simp (disch:=first|exact zd|fail) [ni_len]; rfl)
  refine .ret ?_
  exact hK _ _ _ _ trivial ((Fin.mk (by simp (disch:=omega) [aRes,aResL,aRes1]; try rfl)))
set_option maxHeartbeats 1000000 in
theorem degS_no (L : List Sg) (x : Int) (hl : L.length ≤ 1099511627776) (hz : ¬ (sgF L = 0 ∧ 0 ≤ x ∧ x ≤ ((hitP L).length : Int) - 1)) : FC Tryz.prog 24 [.isl (L.map Sg.cells),.int .i64 x] (.int .i64 (-1)):=by
 refine .b Tryz.func24 17 (fun nx K hK=>?_) (hi:=by simp [idfL,idf,idfLL_iff,Sg.cells,Pt.av,Pt.cells])
 refine .q ?_
 refine .sq fun K2 hK2=>?_
 refine .region ?_
 refine .kf 2 (aroundS_no L x hl hz) hb26 ?_
 refine .e ?_
 refine hK2 _ ?_
 refine .sq fun K3 hK3=>?_
 refine .q ?_
 refine .c (t:=true) (fun h14=>?_) (fun h14=>?_)
 ·try simp only[dc]at h14
  refine .q ?_
  refine .ret ?_
  exact hK _ _ _ _ trivial ((Fin.mk (by simp (disch:=omega) [aRes,aResL,aRes1]; try rfl)))
 ·simp at h14
end
section
attribute [local simp] idf_numS cells_numS numS_fold idf_numI cells_numI numI_fold
set_option maxHeartbeats 2000000 in
theorem fnExactDegreeOf_yes (L : List Sg) (x : Int) (hl : L.length ≤ 9223372036854775807) (hz : sgF L = 0) (hx : 0 ≤ x ∧ x ≤ ((hitP L).length : Int) - 1) : FC Tryz.prog 4 [.isl (L.map Sg.cells),.int .i64 x] (.bool true):=by
 refine .b Tryz.func4 31 (fun nx K hK=>?_) (hi:=by simp [idfL,idf,idfLL_iff,Sp.av,Sp.cells,Sg.av,Sg.cells])
 refine .q ?_
 refine .q ?_
 refine .sq fun K3 hK3=>?_
 refine .region ?_
 refine .kf 2 (szSegS_fc L 1048576 (by omega) (by omega) hl) hb15 ?_
 refine .e ?_
 refine hK3 _ ?_
 refine .sq fun K4 hK4=>?_
 refine .q ?_
 refine .c (t:=decide (szN L.length 1048576 < 0)) (fun h13=>?_) (fun h13=>?_)
 ·try simp only[dc]at h13
  refine .q ?_
  refine .ret ?_
  exact hK _ _ _ _ trivial ((Fin.m))
 ·try simp only[dc]at h13
  obtain ⟨k1,_⟩:=szN_le h13
  have k2 : L.length ≤ 1048576:=by omega
  have k3 : L.length ≤ 1099511627776:=by omega
  obtain ⟨n,hLl⟩ : ∃ n,L.length = n:=⟨_,rfl⟩
  have tkL : List.take n (L.map Sg.cells) = L.map Sg.cells:=List.take_of_length_le (by rw [List.length_map]; omega)
  have own0:=fun nx=>toSegS_own L k2 nx
  rw [hLl] at own0
  have neg4 : decide (1 + 4 * (n : Int) < 0) = false:=by simp; omega
  refine .skip ?_
  refine hK4 _ ?_
  refine .sq fun K7 hK7=>?_
  refine .region ?_
  refine .kf 1 (toSegS_fc L k2) hb17 ?_
  refine .kf 1 (degS_yes L x k3 hz hx) hb24 ?_
  refine .e ?_
  refine hK7 _ ?_
  refine .sq fun K8 hK8=>?_
  refine .region ?_
  refine .k 1 ?_
  refine AOPS.ocallL 4 (own0 _) rfl rfl rfl hb17 (by simp (disch:=first|exact zd|fail) [lv,idf_Wd',lv_sp,lv_sg,lv_m2,lv_int,lv_bool,lv_nsl,List.map_map,List.length_map,hLl,tkL]) (⟨fun _ h=>by simp [nwr,nwrL]; try exact h,by simp [nwr,nwrL,Sg.cells]⟩) (by simp (disch:=first|exact zd|fail)) (by simp) ?_
  intro ix nx2 nx2a nx2b
  simp only [] at nx2a nx2b
  simp only [puts_some,updo]
  refine .e ?_
  refine hK8 _ ?_
  refine .sq fun K9 hK9=>?_
  refine .region ?_
  refine .k 2 ?_
  refine AOPS.lcall 4 (degI_yes L x k3 hz hx) rfl rfl rfl hb25 (by simp (disch:=first|exact zd|fail) [lv,idf_Wd',lv_sp,lv_sg,lv_m2,lv_int,lv_bool,lv_nsl,List.map_map,List.length_map,hLl,tkL]) (by simp [atm,atmL]) (by simp (disch:=first|exact zd|fail)) (by simp) ?_
  simp only [puts_some,updo]
  refine .e ?_
  refine hK9 _ ?_
  refine .sq fun K10 hK10=>?_
  refine .q ?_
  refine .c (t:=false) (fun h25=>?_) (fun h25=>?_)
  ·simp at h25
  ·try simp only[dc]at h25
   refine .skip ?_
   refine hK10 _ ?_
   refine .sq fun K12 hK12=>?_
   refine .sq fun K13 hK13=>?_
   refine .region ?_
   refine .kf 2 (toSegS_fc L k2) hb17 ?_ (by simp (disch:=first|exact zd|fail) [List.take_succ_cons,List.take_zero,hLl]; rfl) (ha:=by simp (disch:=first|exact zd|fail) [idf_Wd',hLl])
   refine AOPS.lcall 4 (eqSegS_fc L hl) rfl rfl rfl hb20 (by simp (disch:=first|exact zd|fail) [lv,idf_Wd',lv_sp,lv_sg,lv_m2,lv_int,lv_bool,lv_nsl,List.map_map,List.length_map,hLl,tkL,hLl]) (by simp [atm,atmL]) (by simp (disch:=first|exact zd|fail) [hLl]) (by simp) ?_
   simp only [puts_some,updo]
   refine .e ?_ (by simp (disch:=first|exact zd|fail) [hLl]; rfl)
   refine hK13 _ ?_
   refine .c (fun h30=>?_) (fun h30=>?_)
   ·simp at h30
   ·try simp only[dc]at h30
    refine .skip ?_
    refine hK12 _ ?_
    refine .q ?_
    refine .ret ?_
    exact hK _ _ _ _ trivial ((Fin.m))
set_option maxHeartbeats 2000000 in
theorem fnExactDegreeOf_no (L : List Sg) (x : Int) (hl : L.length ≤ 9223372036854775807) (hz : ¬ (sgF L = 0 ∧ 0 ≤ x ∧ x ≤ ((hitP L).length : Int) - 1)) : FC Tryz.prog 4 [.isl (L.map Sg.cells),.int .i64 x] (.bool true):=by
 refine .b Tryz.func4 31 (fun nx K hK=>?_) (hi:=by simp [idfL,idf,idfLL_iff,Sp.av,Sp.cells,Sg.av,Sg.cells])
 refine .q ?_
 refine .q ?_
 refine .sq fun K3 hK3=>?_
 refine .region ?_
 refine .kf 2 (szSegS_fc L 1048576 (by omega) (by omega) hl) hb15 ?_
 refine .e ?_
 refine hK3 _ ?_
 refine .sq fun K4 hK4=>?_
 refine .q ?_
 refine .c (t:=decide (szN L.length 1048576 < 0)) (fun h13=>?_) (fun h13=>?_)
 ·try simp only[dc]at h13
  refine .q ?_
  refine .ret ?_
  exact hK _ _ _ _ trivial ((Fin.m))
 ·try simp only[dc]at h13
  obtain ⟨k1,_⟩:=szN_le h13
  have k2 : L.length ≤ 1048576:=by omega
  have k3 : L.length ≤ 1099511627776:=by omega
  obtain ⟨n,hLl⟩ : ∃ n,L.length = n:=⟨_,rfl⟩
  have tkL : List.take n (L.map Sg.cells) = L.map Sg.cells:=List.take_of_length_le (by rw [List.length_map]; omega)
  have own0:=fun nx=>toSegS_own L k2 nx
  rw [hLl] at own0
  have neg4 : decide (1 + 4 * (n : Int) < 0) = false:=by simp; omega
  refine .skip ?_
  refine hK4 _ ?_
  refine .sq fun K7 hK7=>?_
  refine .region ?_
  refine .kf 1 (toSegS_fc L k2) hb17 ?_
  refine .kf 1 (degS_no L x k3 hz) hb24 ?_
  refine .e ?_
  refine hK7 _ ?_
  refine .sq fun K8 hK8=>?_
  refine .region ?_
  refine .k 1 ?_
  refine AOPS.ocallL 4 (own0 _) rfl rfl rfl hb17 (by simp (disch:=first|exact zd|fail) [lv,idf_Wd',lv_sp,lv_sg,lv_m2,lv_int,lv_bool,lv_nsl,List.map_map,List.length_map,hLl,tkL]) (⟨fun _ h=>by simp [nwr,nwrL]; try exact h,by simp [nwr,nwrL,Sg.cells]⟩) (by simp (disch:=first|exact zd|fail)) (by simp) ?_
  intro ix nx2 nx2a nx2b
  simp only [] at nx2a nx2b
  simp only [puts_some,updo]
  refine .e ?_
  refine hK8 _ ?_
  refine .sq fun K9 hK9=>?_
  refine .region ?_
  refine .k 2 ?_
  refine AOPS.lcall 4 (degI_no L x k3 hz) rfl rfl rfl hb25 (by simp (disch:=first|exact zd|fail) [lv,idf_Wd',lv_sp,lv_sg,lv_m2,lv_int,lv_bool,lv_nsl,List.map_map,List.length_map,hLl,tkL]) (by simp [atm,atmL]) (by simp (disch:=first|exact zd|fail)) (by simp) ?_
  simp only [puts_some,updo]
  refine .e ?_
  refine hK9 _ ?_
  refine .sq fun K10 hK10=>?_
  refine .q ?_
  refine .c (t:=false) (fun h25=>?_) (fun h25=>?_)
  ·simp at h25
  ·try simp only[dc]at h25
   refine .skip ?_
   refine hK10 _ ?_
   refine .sq fun K12 hK12=>?_
   refine .sq fun K13 hK13=>?_
   refine .region ?_
   refine .kf 2 (toSegS_fc L k2) hb17 ?_ (by simp (disch:=first|exact zd|fail) [List.take_succ_cons,List.take_zero,hLl]; rfl) (ha:=by simp (disch:=first|exact zd|fail) [idf_Wd',hLl])
   refine AOPS.lcall 4 (eqSegS_fc L hl) rfl rfl rfl hb20 (by simp (disch:=first|exact zd|fail) [lv,idf_Wd',lv_sp,lv_sg,lv_m2,lv_int,lv_bool,lv_nsl,List.map_map,List.length_map,hLl,tkL,hLl]) (by simp [atm,atmL]) (by simp (disch:=first|exact zd|fail) [hLl]) (by simp) ?_
   simp only [puts_some,updo]
   refine .e ?_ (by simp (disch:=first|exact zd|fail) [hLl]; rfl)
   refine hK13 _ ?_
   refine .c (fun h30=>?_) (fun h30=>?_)
   ·simp at h30
   ·try simp only[dc]at h30
    refine .skip ?_
    refine hK12 _ ?_
    refine .q ?_
    refine .ret ?_
    exact hK _ _ _ _ trivial ((Fin.m))
end
theorem fnExactDegreeOf_fc (L : List Sg) (x : Int) (hl : L.length ≤ 9223372036854775807) : FC Tryz.prog 4 [.isl (L.map Sg.cells),.int .i64 x] (.bool true):=by
  by_cases hz : sgF L = 0 ∧ 0 ≤ x ∧ x ≤ ((hitP L).length : Int) - 1
  · exact fnExactDegreeOf_yes L x hl hz.1 hz.2
  · exact fnExactDegreeOf_no L x hl hz

end Go.Proofs.YtjbbbkfdcegfmaaGreat
