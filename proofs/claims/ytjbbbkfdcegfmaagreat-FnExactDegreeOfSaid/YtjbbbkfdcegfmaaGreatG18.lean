/- Walks: segments that are quiet; FnExactQuiet, walked. -/
import Derived.Test.YtjbbbkfdcegfmaaGreatG17

namespace Go.Proofs.YtjbbbkfdcegfmaaGreat
open Go Go.RowKit
set_option linter.unusedSimpArgs false
set_option linter.unusedVariables false
set_option maxRecDepth 100000
attribute [local simp] szT2 byT2 agT2 unT2 zoT2 szT3 byT3 agT3 unT3 zoT3 szT27 byT27 agT27 elT27 unT27 zoT27 szT83 byT83 agT83 flT83 fdT83_0 fdT83_1 zoT83 szT85 byT85 agT85 flT85 fdT85_0 fdT85_1 zoT85 srT27

theorem gse_at {L : List Sg} {i : Nat} (h : i < L.length) : (L.map Sg.cells)[i]? = some [.int .i64 (gse L i).a.x,.int .i64 (gse L i).a.y,.int .i64 (gse L i).b.x,.int .i64 (gse L i).b.y]:=by rw [List.getElem?_map,gse_get h]; rfl

section
attribute [local simp] Sp.av Sp.cells Sg.av Sg.cells
set_option maxHeartbeats 1000000 in
theorem segsFaultI_fc (L : List Sg) (hl : L.length ≤ 1099511627776) : FC Tryz.prog 103 [.isl (L.map Sg.cells)] (.int .i64 (sgF L : Int)):=by
 refine .b Tryz.func103 18 (fun nx K hK=>?_) (hi:=by simp [idfL,idf,idfLL_iff,Sp.av,Sp.cells,Sg.av,Sg.cells])
 refine .q ?_
 refine .sq fun K2 hK2=>?_
 refine .q ?_ (by simp (disch:=first|exact zd|fail) [List.length_map]; rfl)
 refine .c (t:=decide (40 < (L.length : Int))) (fun h7=>?_) (fun h7=>?_)
 ·try simp only[dc]at h7
  refine .q ?_
  refine .ret ?_
  exact hK _ _ _ _ trivial ((Fin.m).cast (by rw [sgF_many (by omega)]))
 ·try simp only[dc]at h7
  have h40 : ¬ 40 < L.length:=by omega
  refine .skip ?_
  refine hK2 _ ?_
  refine .sq fun K5 hK5=>?_
  refine .q ?_ (by simp (disch:=first|exact zd|fail) [List.length_map]; rfl)
  refine .block ?_
  
  refine .loop (fun N s=>∃ i : Nat,N = L.length - i ∧ i ≤ L.length ∧ (∀ j,j < i → (gse L j).good = true) ∧ s.env 8 = .isl (L.map Sg.cells) ∧ s.env 9 = .int .i64 (L.length : Int) ∧ s.env 10 = .int .i64 (i : Int) ∧ s.nt = 18) (L.length) (by refine ⟨0,by omega,by omega,fun j h=>by omega,?_,?_,?_,rfl⟩ <;> first|(simp (disch:=omega);done)|omega|(simp;done)|(simp;omega)) ?_
  rintro N ⟨e,H,mm,nt⟩ ⟨i,rfl,hi,hgd,g8,g9,g10,rfl⟩
  simp only [] at g8 g9 g10
  refine .q ?_ (by simp (disch:=first|exact zd|fail) [g8,g9,g10,List.length_map]; rfl)
  refine .sq fun K8 hK8=>?_
  refine .c (fun h11=>?_) (fun h11=>?_)
  ·try simp only[dc]at h11
   have hi' : i < L.length:=by omega
   have hat:=gse_at hi'
   refine .skip ?_
   refine hK8 _ ?_
   refine .sq fun K9 hK9=>?_
   refine .block ?_
   refine .q ?_ (by simp (disch:=first|exact zd|fail) [if_pos,g8,g10,hat,List.length_map]; rfl)
   refine .sq fun K11 hK11=>?_
   refine .region ?_
   refine .kf 1 (segOkI_fc (gse L i)) hb153 ?_ (by simp (disch:=first|exact zd|fail) [List.take_succ_cons,List.take_zero,g8,g9,g10,hat,List.length_map]; rfl) (ha:=by simp (disch:=first|exact zd|fail) [idf_Wd',g8,g9,g10,hat,List.length_map])
   refine .e ?_ (by simp (disch:=first|exact zd|fail) [g8,g9,g10,hat,List.length_map]; rfl)
   refine hK11 _ ?_
   refine .c (t:=!(gse L i).good) (fun h16=>?_) (fun h16=>?_)
   ·try simp only[dc]at h16
    have hb : ¬ (gse L i).good = true:=by simpa using h16
    refine .q ?_
    refine .ret ?_
    exact hK _ _ _ _ trivial ((Fin.m).cast (by rw [sgF_bad h40 (gse_mem hi') hb]))
   ·try simp only[dc]at h16
    have hg1 : (gse L i).good = true:=by simpa using h16
    refine .skip ?_
    refine hK9 _ ?_
    refine .r ?_ (by simp (disch:=first|exact zd|fail) [g10]; rfl)
    refine ⟨L.length - (i + 1),by omega,i + 1,rfl,by omega,fun j h=>by rcases Nat.lt_succ_iff_lt_or_eq.1 h with h | h; exact hgd j h; rw [h]; exact hg1,?_,?_,?_,rfl⟩ <;> first|(simp (disch:=omega) [g8,g9,g10];done)|omega|(simp;done)|(simp;omega)
  ·try simp only[dc]at h11
   have hG : sgGood L:=sgGood_of (by omega) hgd
   refine .exit ?_
   refine hK5 _ ?_
   refine .q ?_
   refine .ret ?_
   exact hK _ _ _ _ trivial ((Fin.m).cast (by rw [sgF_ok h40 hG]))
theorem areSegs_fc (L : List Sg) (hl : L.length ≤ 1099511627776) : FC Tryz.prog 61 [.isl (L.map Sg.cells)] (.bool (decide (sgF L = 0))):=by
 refine .b Tryz.func61 6 (fun nx K hK=>?_) (hi:=by simp [idfL,idf,idfLL_iff,Sp.av,Sp.cells,Sg.av,Sg.cells])
 refine .q ?_
 refine .sq fun K2 hK2=>?_
 refine .region ?_
 refine .kf 1 (segsFaultI_fc L hl) hb103 ?_
 refine .e ?_
 refine hK2 _ ?_
 refine .ret ?_
 exact hK _ _ _ _ trivial ((Fin.m).cast (by rw [beqdI]))
set_option maxHeartbeats 1000000 in
theorem segsFaultS_fc (L : List Sg) (hl : L.length ≤ 1099511627776) : FC Tryz.prog 98 [.isl (L.map Sg.cells)] (.int .i64 (sgF L : Int)):=by
 refine .b Tryz.func98 19 (fun nx K hK=>?_) (hi:=by simp [idfL,idf,idfLL_iff,Sp.av,Sp.cells,Sg.av,Sg.cells])
 refine .q ?_
 refine .sq fun K2 hK2=>?_
 refine .q ?_ (by simp (disch:=first|exact zd|fail) [List.length_map]; rfl)
 refine .c (t:=decide (40 < (L.length : Int))) (fun h6=>?_) (fun h6=>?_)
 ·try simp only[dc]at h6
  refine .q ?_
  refine .ret ?_
  exact hK _ _ _ _ trivial ((Fin.m).cast (by rw [sgF_many (by omega)]))
 ·try simp only[dc]at h6
  have h40 : ¬ 40 < L.length:=by omega
  refine .skip ?_
  refine hK2 _ ?_
  refine .sq fun K5 hK5=>?_
  refine .q ?_ (by simp (disch:=first|exact zd|fail) [List.length_map]; rfl)
  refine .block ?_
  
  refine .loop (fun N s=>∃ i : Nat,N = L.length - i ∧ i ≤ L.length ∧ (∀ j,j < i → (gse L j).good = true) ∧ s.env 0 = .isl (L.map Sg.cells) ∧ s.env 3 = .int .i64 (i : Int) ∧ s.nt = 19) (L.length) (by refine ⟨0,by omega,by omega,fun j h=>by omega,?_,?_,rfl⟩ <;> first|(simp (disch:=omega);done)|omega|(simp;done)|(simp;omega)) ?_
  rintro N ⟨e,H,mm,nt⟩ ⟨i,rfl,hi,hgd,g0,g3,rfl⟩
  simp only [] at g0 g3
  refine .sq fun K7 hK7=>?_
  refine .q ?_ (by simp (disch:=first|exact zd|fail) [g0,g3,List.length_map]; rfl)
  refine .c (fun h10=>?_) (fun h10=>?_)
  ·try simp only[dc]at h10
   have hi' : i < L.length:=by omega
   have hat:=gse_at hi'
   refine .skip ?_
   refine hK7 _ ?_
   refine .sq fun K9 hK9=>?_
   refine .block ?_
   refine .sq fun K10 hK10=>?_
   refine .region ?_
   refine .kf 4 (segOkS_fc (gse L i)) hb149 ?_ (by simp (disch:=first|exact zd|fail) [List.take_succ_cons,List.take_zero,if_pos,g0,g3,hat,List.length_map]; rfl) (ha:=by simp (disch:=first|exact zd|fail) [idf_Wd',if_pos,g0,g3,hat,List.length_map])
   refine .e ?_ (by simp (disch:=first|exact zd|fail) [if_pos,g0,g3,hat,List.length_map]; rfl)
   refine hK10 _ ?_
   refine .c (t:=!(gse L i).good) (fun h18=>?_) (fun h18=>?_)
   ·try simp only[dc]at h18
    have hb : ¬ (gse L i).good = true:=by simpa using h18
    refine .q ?_
    refine .ret ?_
    exact hK _ _ _ _ trivial ((Fin.m).cast (by rw [sgF_bad h40 (gse_mem hi') hb]))
   ·try simp only[dc]at h18
    have hg1 : (gse L i).good = true:=by simpa using h18
    refine .skip ?_
    refine hK9 _ ?_
    refine .r ?_ (by simp (disch:=first|exact zd|fail) [g3]; rfl)
    refine ⟨L.length - (i + 1),by omega,i + 1,rfl,by omega,fun j h=>by rcases Nat.lt_succ_iff_lt_or_eq.1 h with h | h; exact hgd j h; rw [h]; exact hg1,?_,?_,rfl⟩ <;> first|(simp (disch:=omega) [g0,g3];done)|omega|(simp;done)|(simp;omega)
  ·try simp only[dc]at h10
   have hG : sgGood L:=sgGood_of (by omega) hgd
   refine .exit ?_
   refine hK5 _ ?_
   refine .q ?_
   refine .ret ?_
   exact hK _ _ _ _ trivial ((Fin.m).cast (by rw [sgF_ok h40 hG]))
theorem l7Ok_fc (L : List Sg) (hl : L.length ≤ 1099511627776) : FC Tryz.prog 57 [.isl (L.map Sg.cells)] (.bool (decide (sgF L = 0))):=by
 refine .b Tryz.func57 6 (fun nx K hK=>?_) (hi:=by simp [idfL,idf,idfLL_iff,Sp.av,Sp.cells,Sg.av,Sg.cells])
 refine .q ?_
 refine .sq fun K2 hK2=>?_
 refine .region ?_
 refine .kf 1 (segsFaultS_fc L hl) hb98 ?_
 refine .e ?_
 refine hK2 _ ?_
 refine .ret ?_
 exact hK _ _ _ _ trivial ((Fin.m).cast (by rw [beqdI]))
end

end Go.Proofs.YtjbbbkfdcegfmaaGreat

/- Walks: rows of segments; FnExactQuiet, walked. -/
namespace Go.Proofs.YtjbbbkfdcegfmaaGreat
open Go Go.RowKit
set_option linter.unusedSimpArgs false
set_option linter.unusedVariables false
set_option maxRecDepth 100000
attribute [local simp] szT2 byT2 agT2 unT2 zoT2 szT3 byT3 agT3 unT3 zoT3 szT22 byT22 agT22 elT22 unT22 zoT22 szT27 byT27 agT27 elT27 unT27 zoT27 szT83 byT83 agT83 flT83 fdT83_0 fdT83_1 zoT83 szT85 byT85 agT85 flT85 fdT85_0 fdT85_1 zoT85 szT87 byT87 agT87 flT87 fdT87_0 fdT87_1 zoT87 szT89 byT89 agT89 flT89 fdT89_0 fdT89_1 zoT89 srT22 srT27

section
attribute [local simp] Sp.av Sp.cells Sg.av Sg.cells
theorem szSegS_fc (l : List Sg) (n : Int) (h0 : 0 ≤ n) (h1 : n ≤ 9223372036854775807) (hl : l.length ≤ 9223372036854775807) : FC Tryz.prog 15 [.isl (l.map Sg.cells),.int .i64 n] (.int .i64 (szN l.length n)):=by
 refine .b Tryz.func15 12 (fun nx K hK=>?_) (hi:=by simp [idfL,idf,idfLL_iff,Sp.av,Sp.cells,Sg.av,Sg.cells])
 refine .q ?_
 refine .q ?_ (by simp (disch:=first|exact zd|fail) [List.length_map]; rfl)
 refine .sq fun K3 hK3=>?_
 refine .q ?_
 refine .c (t:=decide (n - (l.length : Int) < 0)) (fun h10=>?_) (fun h10=>?_)
 ·try simp only[dc]at h10
  refine .q ?_
  refine .ret ?_
  exact hK _ _ _ _ trivial ((Fin.m).cast (by unfold szN; rw [if_pos h10]))
 ·try simp only[dc]at h10
  refine .skip ?_
  refine hK3 _ ?_
  refine .q ?_
  refine .ret ?_
  exact hK _ _ _ _ trivial ((Fin.m).cast (by unfold szN; rw [if_neg h10]))
end
set_option maxHeartbeats 1000000 in
theorem toSegS_fc (l : List Sg) (hl : l.length ≤ 1048576) : FC Tryz.prog 17 [.isl (l.map Sg.cells)] (.isl (l.map Sg.cells)):=by
 refine .b Tryz.func17 23 (fun nx K hK=>?_) (hi:=by simp [idfL,idf,idfLL_iff,Sp.av,Sp.cells,Sg.av,Sg.cells]) (hr:=by simp [idf,idfL,idfLL_iff,Sp.cells,Sg.cells])
 refine .q ?_
 refine .q ?_ (by simp (disch:=first|exact zd|fail) [if_pos,List.length_map]; rfl)
 refine .sq fun K3 hK3=>?_
 refine .q ?_
 refine .block ?_
 refine .loop (fun N s=>∃ i id : Nat,N = l.length - i ∧ i ≤ l.length ∧ s.env 0 = .isl (l.map Sg.cells) ∧ s.env 3 = .osl id 0 l.length ∧ s.env 4 = .int .i64 (i : Int) ∧ s.heap id = some (4,fillR Sg.cells [.int .i64 0,.int .i64 0,.int .i64 0,.int .i64 0] l i) ∧ s.nt = 23) (l.length) (⟨0,nx,by omega,by omega,by simp,by simp,by simp,by simp [← fillR_zero],rfl⟩) ?_
 rintro N ⟨e,H,mm,nt⟩ ⟨i,id,rfl,hi,h0,h3,h4,hH,rfl⟩
 simp only [] at h0 h3 h4 hH
 refine .sq fun K5 hK5=>?_
 refine .q ?_ (by simp (disch:=first|exact zd|fail) [h0,h4,List.length_map]; rfl)
 refine .c (fun h11=>?_) (fun h11=>?_)
 ·try simp only[dc]at h11
  have hi' : i < l.length:=by omega
  obtain ⟨p,hpi⟩ : ∃ p,l[i]? = some p:=⟨l[i],by simp [hi']⟩
  have hpm : (l.map Sg.cells)[i]? = some p.cells:=by rw [List.getElem?_map,hpi]; rfl
  have fst:=fillR_set Sg.cells [.int .i64 0,.int .i64 0,.int .i64 0,.int .i64 0] l hpi
  simp only [Sg.cells] at fst
  have fl:=fillR_len Sg.cells [.int .i64 0,.int .i64 0,.int .i64 0,.int .i64 0] l hi
  have fg:=fillR_getE Sg.cells [.int .i64 0,.int .i64 0,.int .i64 0,.int .i64 0] l hi'
  refine .skip ?_
  refine hK5 _ ?_
  refine .sq fun K7 hK7=>?_
  refine .block ?_
  refine .region ?_
  refine .kf 6 (toSeg_fc p) hb60 ?_ (by simp (disch:=first|exact zd|fail) [List.take_succ_cons,List.take_zero,if_pos,h0,h3,h4,hH,fl,fg,hpm,Sp.cells,Sg.cells,Sp.av,Sg.av,List.length_map]; rfl) (ha:=by simp (disch:=first|exact zd|fail) [idf_Wd',if_pos,h0,h3,h4,hH,fl,fg,hpm,Sp.cells,Sg.cells,Sp.av,Sg.av,List.length_map])
  refine .e ?_ (by simp (disch:=first|exact zd|fail) [if_pos,h0,h3,h4,hH,fl,fg,hpm,Sp.cells,Sg.cells,Sp.av,Sg.av,List.length_map]; rfl)
  refine hK7 _ ?_
  refine .r ?_ (by simp (disch:=first|exact zd|fail) [h4]; rfl)
  refine ⟨l.length - (i + 1),by omega,i + 1,id,rfl,by omega,by simp [h0],by simp [h3],by simp (disch:=omega) [h4],by simp [fst],rfl⟩
 ·try simp only[dc]at h11
  have hin : i = l.length:=by omega
  rw [hin,fillR_all] at hH
  refine .exit ?_
  refine hK3 _ ?_
  refine .q ?_ (by simp (disch:=first|exact zd|fail) [h3]; rfl)
  refine .ret ?_
  exact hK _ _ _ _ trivial (((Fin.mk (r:=.osl id 0 l.length) (by simp [aRes,aResL,aRes1])).freeze (id:=id) (z:=4) (es:=l.map Sg.cells) (by simp [hH])).cast (fz_fill _ _ rfl))
section
attribute [local simp] Sp.av Sp.cells Sg.av Sg.cells
theorem eqSeg_fc (p : Sg) : FC Tryz.prog 65 [p.av,p.av] (.bool true):=by
 refine .b Tryz.func65 17 (fun nx K hK=>?_) (hi:=by simp [idfL,idf,idfLL_iff,Sp.av,Sp.cells,Sg.av,Sg.cells])
 refine .q ?_
 refine .sq fun K2 hK2=>?_
 refine .sq fun K3 hK3=>?_
 refine .region ?_
 refine .kf 4 (eqSpot_fc p.a) hb111 ?_
 refine .e ?_
 refine hK3 _ ?_
 refine .c (fun h10=>?_) (fun h10=>?_)
 ·simp at h10
 ·try simp only[dc]at h10
  refine .skip ?_
  refine hK2 _ ?_
  refine .sq fun K4 hK4=>?_
  refine .sq fun K5 hK5=>?_
  refine .region ?_
  refine .kf 4 (eqSpot_fc p.b) hb111 ?_
  refine .e ?_
  refine hK5 _ ?_
  refine .c (fun h16=>?_) (fun h16=>?_)
  ·simp at h16
  ·try simp only[dc]at h16
   refine .skip ?_
   refine hK4 _ ?_
   refine .q ?_
   refine .ret ?_
   exact hK _ _ _ _ trivial ((Fin.m))
set_option maxHeartbeats 1000000 in
theorem eqSegS_fc (l : List Sg) (hl : l.length ≤ 9223372036854775807) : FC Tryz.prog 20 [.isl (l.map Sg.cells),.isl (l.map Sg.cells)] (.bool true):=by
 refine .b Tryz.func20 27 (fun nx K hK=>?_) (hi:=by simp [idfL,idf,idfLL_iff,Sp.av,Sp.cells,Sg.av,Sg.cells])
 refine .q ?_
 refine .sq fun K2 hK2=>?_
 refine .q ?_ (by simp (disch:=first|exact zd|fail) [List.length_map]; rfl)
 refine .c (fun h10=>?_) (fun h10=>?_)
 ·simp at h10
 ·try simp only[dc]at h10
  refine .skip ?_
  refine hK2 _ ?_
  refine .sq fun K4 hK4=>?_
  refine .q ?_
  refine .block ?_
  
  refine .loop (fun N s=>∃ i : Nat,N = l.length - i ∧ i ≤ l.length ∧ s.env 0 = .isl (l.map Sg.cells) ∧ s.env 1 = .isl (l.map Sg.cells) ∧ s.env 5 = .int .i64 (i : Int) ∧ s.nt = 27) (l.length) (by refine ⟨0,by omega,by omega,?_,?_,?_,rfl⟩ <;> first|(simp (disch:=omega);done)|omega|(simp;done)|(simp;omega)) ?_
  rintro N ⟨e,H,mm,nt⟩ ⟨i,rfl,hi,g0,g1,g5,rfl⟩
  simp only [] at g0 g1 g5
  refine .sq fun K6 hK6=>?_
  refine .q ?_ (by simp (disch:=first|exact zd|fail) [g0,g5,List.length_map]; rfl)
  refine .c (fun h14=>?_) (fun h14=>?_)
  ·try simp only[dc]at h14
   have hi' : i < l.length:=by omega
   obtain ⟨p,hpi⟩ : ∃ p,l[i]? = some p:=⟨l[i],by simp [hi']⟩
   have hpm : (l.map Sg.cells)[i]? = some p.cells:=by rw [List.getElem?_map,hpi]; rfl
   refine .skip ?_
   refine hK6 _ ?_
   refine .sq fun K8 hK8=>?_
   refine .block ?_
   refine .sq fun K9 hK9=>?_
   refine .d 10 ?_
   refine .k 8 (fun fs10 hfs10=>?_) (by simp (disch:=first|exact zd|fail) [List.take_succ_cons,List.take_zero,if_pos,g0,g1,g5,hpm,List.length_map]; rfl)
   refine .f (eqSeg_fc p) hb65 ?_ (ha:=by simp (disch:=first|exact zd|fail) [idf_Wd',if_pos,g0,g1,g5,hpm,List.length_map])
   refine .k 1 (fun fs11 hfs11=>?_) (by simp (disch:=first|exact zd|fail) [List.take_succ_cons,List.take_zero,if_pos,g0,g1,g5,hpm,List.length_map]; rfl)
   refine .r 10 (by simp only[ln,hfs10,hfs11];omega) ?_ (by simp (disch:=first|exact zd|fail) [if_pos,g0,g1,g5,hpm,List.length_map]; rfl)
   refine hK9 _ ?_
   refine .c (fun h26=>?_) (fun h26=>?_)
   ·simp at h26
   ·try simp only[dc]at h26
    refine .skip ?_
    refine hK8 _ ?_
    refine .r ?_ (by simp (disch:=first|exact zd|fail) [g5]; rfl)
    refine ⟨l.length - (i + 1),by omega,i + 1,rfl,by omega,?_,?_,?_,rfl⟩ <;> first|(simp (disch:=omega) [g0,g1,g5];done)|omega|(simp;done)|(simp;omega)
  ·try simp only[dc]at h14
   refine .exit ?_
   refine hK4 _ ?_
   refine .q ?_
   refine .ret ?_
   exact hK _ _ _ _ trivial ((Fin.m))
end

end Go.Proofs.YtjbbbkfdcegfmaaGreat

/- Walks: FnExactCrossPairs, walked. -/
namespace Go.Proofs.YtjbbbkfdcegfmaaGreat
open Go Go.RowKit
set_option linter.unusedSimpArgs false
set_option linter.unusedVariables false
set_option maxRecDepth 100000
attribute [local simp] szT2 byT2 agT2 unT2 zoT2 szT3 byT3 agT3 unT3 zoT3 szT22 byT22 agT22 elT22 unT22 zoT22 szT27 byT27 agT27 elT27 unT27 zoT27 szT83 byT83 agT83 flT83 fdT83_0 fdT83_1 zoT83 szT85 byT85 agT85 flT85 fdT85_0 fdT85_1 zoT85 szT87 byT87 agT87 flT87 fdT87_0 fdT87_1 zoT87 szT89 byT89 agT89 flT89 fdT89_0 fdT89_1 zoT89 srT22 srT27

set_option maxHeartbeats 1000000 in
theorem toSegS_own (l : List Sg) (hl : l.length ≤ 1048576) (nx : Nat) : ACall Tryz.prog 17 [.isl (l.map Sg.cells)] (fun _=>none) nx (own1 nx 4 (l.map Sg.cells) (fun id=>.osl id 0 l.length)):=by
 refine .b Tryz.func17 23 fun K hK=>?_
 refine .q ?_
 refine .q ?_ (by simp (disch:=first|exact zd|fail) [if_pos,List.length_map]; rfl)
 refine .sq fun K3 hK3=>?_
 refine .q ?_
 refine .block ?_
 refine .loop (fun N s=>∃ i id : Nat,N = l.length - i ∧ i ≤ l.length ∧ s.env 0 = .isl (l.map Sg.cells) ∧ s.env 3 = .osl id 0 l.length ∧ s.env 4 = .int .i64 (i : Int) ∧ s.heap id = some (4,fillR Sg.cells [.int .i64 0,.int .i64 0,.int .i64 0,.int .i64 0] l i) ∧ nx ≤ id ∧ id < s.nx ∧ s.nt = 23) (l.length) (⟨0,nx,by omega,by omega,by simp,by simp,by simp,by simp [← fillR_zero],by omega,by simp,rfl⟩) ?_
 rintro N ⟨e,H,mm,nt⟩ ⟨i,id,rfl,hi,h0,h3,h4,hH,hx1,hx2,rfl⟩
 simp only [] at h0 h3 h4 hH hx1 hx2
 refine .sq fun K5 hK5=>?_
 refine .q ?_ (by simp (disch:=first|exact zd|fail) [h0,h4,List.length_map]; rfl)
 refine .c (fun h11=>?_) (fun h11=>?_)
 ·try simp only[dc]at h11
  have hi' : i < l.length:=by omega
  obtain ⟨p,hpi⟩ : ∃ p,l[i]? = some p:=⟨l[i],by simp [hi']⟩
  have hpm : (l.map Sg.cells)[i]? = some p.cells:=by rw [List.getElem?_map,hpi]; rfl
  have fst:=fillR_set Sg.cells [.int .i64 0,.int .i64 0,.int .i64 0,.int .i64 0] l hpi
  simp only [Sg.cells] at fst
  have fl:=fillR_len Sg.cells [.int .i64 0,.int .i64 0,.int .i64 0,.int .i64 0] l hi
  have fg:=fillR_getE Sg.cells [.int .i64 0,.int .i64 0,.int .i64 0,.int .i64 0] l hi'
  refine .skip ?_
  refine hK5 _ ?_
  refine .sq fun K7 hK7=>?_
  refine .block ?_
  refine .region ?_
  refine .kf 6 (toSeg_fc p) hb60 ?_ (by simp (disch:=first|exact zd|fail) [List.take_succ_cons,List.take_zero,if_pos,h0,h3,h4,hH,fl,fg,hpm,Sp.cells,Sg.cells,Sp.av,Sg.av,List.length_map]; rfl) (ha:=by simp (disch:=first|exact zd|fail) [idf_Wd',if_pos,h0,h3,h4,hH,fl,fg,hpm,Sp.cells,Sg.cells,Sp.av,Sg.av,List.length_map])
  refine .e ?_ (by simp (disch:=first|exact zd|fail) [if_pos,h0,h3,h4,hH,fl,fg,hpm,Sp.cells,Sg.cells,Sp.av,Sg.av,List.length_map]; rfl)
  refine hK7 _ ?_
  refine .r ?_ (by simp (disch:=first|exact zd|fail) [h4]; rfl)
  refine ⟨l.length - (i + 1),by omega,i + 1,id,rfl,by omega,by simp [h0],by simp [h3],by simp (disch:=omega) [h4],by simp [fst],hx1,by first | omega | (simp; done) | (simp; omega),rfl⟩
 ·try simp only[dc]at h11
  have hin : i = l.length:=by omega
  rw [hin,fillR_all] at hH
  refine .exit ?_
  refine hK3 _ ?_
  refine .q ?_ (by simp (disch:=first|exact zd|fail) [h3]; rfl)
  refine .ret ?_
  exact hK _ _ _ _ _ trivial (Fin.own1 (Fin.mk (by simp (disch:=omega) [aRes,aResL,aRes1]; try rfl)) (id:=id) (by simp [hH])) (⟨id,by first | omega | (simp; done) | (simp; omega),by first | omega | (simp; done) | (simp; omega),rfl,rfl⟩)
section
attribute [local simp] Sp.av Sp.cells Sg.av Sg.cells
end


end Go.Proofs.YtjbbbkfdcegfmaaGreat

/- Walks: FnOver, walked. -/
namespace Go.Proofs.YtjbbbkfdcegfmaaGreat
open Go Go.RowKit
set_option linter.unusedSimpArgs false
set_option linter.unusedVariables false
set_option maxRecDepth 100000
attribute [local simp] szT2 byT2 agT2 unT2 zoT2 szT4 byT4 agT4 unT4 zoT4 szT60 byT60 agT60 flT60 fdT60_0 fdT60_1 fdT60_2 fdT60_3 zoT60 szT62 byT62 agT62 flT62 fdT62_0 fdT62_1 fdT62_2 zoT62 szT83 byT83 agT83 flT83 fdT83_0 fdT83_1 zoT83 szT85 byT85 agT85 flT85 fdT85_0 fdT85_1 zoT85 szT188 byT188 agT188 elT188 unT188 zoT188 szT190 byT190 agT190 flT190 fdT190_0 fdT190_1 zoT190 szT192 byT192 agT192 flT192 fdT192_0 fdT192_1 fdT192_2 zoT192 srT188

section
attribute [local simp] idf_numS cells_numS numS_fold idf_numI cells_numI numI_fold Sp.av Sp.cells Sg.av Sg.cells Pt.av Pt.cells spA spC numC
set_option maxHeartbeats 4000000 in
theorem sideOfI_fc (s : Sg) (p : Pt) (gs : s.good = true) (hp : p.ok) : FC Tryz.prog 187 [s.av,p.av] (.int .i64 (sdF s p)):=by
 obtain ⟨ax0,ax1,ay0,ay1⟩:=Sp.b (good_a gs)
 obtain ⟨bx0,bx1,by0,by1⟩:=Sp.b (good_b gs)
 have pX:=W4.bg hp.1
 have pY:=W4.bg hp.2.1
 have pW:=W4.bg hp.2.2
 have aX : Bg 1 s.a.x:=Bg.i64 (by omega) (by omega)
 have aY : Bg 1 s.a.y:=Bg.i64 (by omega) (by omega)
 have bX : Bg 1 s.b.x:=Bg.i64 (by omega) (by omega)
 have bY : Bg 1 s.b.y:=Bg.i64 (by omega) (by omega)
 have dX' : Bg 1 (s.b.x - s.a.x):=Bg.i64 (by omega) (by omega)
 have dY' : Bg 1 (s.b.y - s.a.y):=Bg.i64 (by omega) (by omega)
 refine .b Tryz.func187 52 (fun nx K hK=>?_) (hi:=by simp [idfL,idf,Sp.av,Sp.cells,Sg.av,Sg.cells,Pt.av,Pt.cells])
 refine .q ?_
 refine .sq fun K2 hK2=>?_
 refine .region ?_
 refine .kf 1 (spot_fc p hp) hb138 ?_
 refine .e ?_
 refine hK2 _ ?_
 refine .sq fun K3 hK3=>?_
 refine .d 11 ?_
 refine .k 5 (fun fs4 hfs4=>?_)
 refine .f (whole_fc s.a.x (by omega) (by omega)) hb143 ?_
 refine .k 2 (fun fs5 hfs5=>?_)
 refine .f (by_fc aX pW (by omega) (by omega)) hb197 ?_
 refine .f (less_fc pX (aX.mul pW) (by omega) (by omega)) hb182 ?_
 refine .k 1 (fun fs6 hfs6=>?_)
 refine .r 11 (by simp only[ln,hfs4,hfs5,hfs6];omega) ?_
 refine hK3 _ ?_
 refine .sq fun K7 hK7=>?_
 refine .d 11 ?_
 refine .k 5 (fun fs8 hfs8=>?_)
 refine .f (whole_fc s.a.y (by omega) (by omega)) hb143 ?_
 refine .k 2 (fun fs9 hfs9=>?_)
 refine .f (by_fc aY pW (by omega) (by omega)) hb197 ?_
 refine .f (less_fc pY (aY.mul pW) (by omega) (by omega)) hb182 ?_
 refine .k 1 (fun fs10 hfs10=>?_)
 refine .r 11 (by simp only[ln,hfs8,hfs9,hfs10];omega) ?_
 refine hK7 _ ?_
 refine .sq fun K11 hK11=>?_
 have bQ:=pX.sub (aX.mul pW)
 have bR:=pY.sub (aY.mul pW)
 have hs : FC Tryz.prog 139 [numI ((s.b.x - s.a.x) * (p.y.v - s.a.y * p.w.v) - (s.b.y - s.a.y) * (p.x.v - s.a.x * p.w.v))] (.int .i64 (sdF s p)):=sign_fc (sdZ s p)
 refine .d 22 ?_
 refine .k 7 (fun fs12 hfs12=>?_)
 refine .f (whole_fc (s.b.x - s.a.x) (by omega) (by omega)) hb143 ?_
 refine .k 1 (fun fs13 hfs13=>?_)
 refine .f (by_fc dX' bR (by omega) (by omega)) hb197 ?_
 refine .k 7 (fun fs14 hfs14=>?_)
 refine .f (whole_fc (s.b.y - s.a.y) (by omega) (by omega)) hb143 ?_
 refine .k 1 (fun fs15 hfs15=>?_)
 refine .f (by_fc dY' bQ (by omega) (by omega)) hb197 ?_
 refine .f (less_fc (dX'.mul bR) (dY'.mul bQ) (by omega) (by omega)) hb182 ?_
 refine .f hs hb139 ?_
 refine .r 22 (by simp only[ln,hfs12,hfs13,hfs14,hfs15];omega) ?_
 refine hK11 _ ?_
 refine .ret ?_
 exact hK _ _ _ _ trivial (Fin.m)
end
section
attribute [local simp] idf_numS cells_numS numS_fold idf_numI cells_numI numI_fold Sp.av Sp.cells Sg.av Sg.cells Pt.av Pt.cells
set_option maxHeartbeats 4000000 in
theorem onSegI_fc (s : Sg) (p : Pt) (gs : s.good = true) (hp : p.ok) : FC Tryz.prog 201 [s.av,p.av] (.bool (onF s p)):=by
 have c1:=cmpPoints_fc (ptS s.a) p (pt3_ok _ _ _) hp
 have c2:=cmpPoints_fc p (ptS s.b) hp (pt3_ok _ _ _)
 have o1:=pointOfI_fc s.a (good_a gs)
 have o2:=pointOfI_fc s.b (good_b gs)
 refine .b Tryz.func201 25 (fun nx K hK=>?_) (hi:=by simp [idfL,idf,Sp.av,Sp.cells,Sg.av,Sg.cells,Pt.av,Pt.cells])
 refine .q ?_
 refine .sq fun K2 hK2=>?_
 cases k1 : decide (cmV (ptS s.a) p ≤ 0)
 ·refine .d 20 ?_
  refine .k 2 (fun fs3 hfs3=>?_) (by simp (disch:=first|exact zd|fail) [List.take_succ_cons,List.take_zero,k1]; rfl)
  refine .f o1 hb155 ?_ (ha:=by simp (disch:=first|exact zd|fail) [idf_Wd',k1])
  refine .k 1 (fun fs4 hfs4=>?_) (by simp (disch:=first|exact zd|fail) [List.take_succ_cons,List.take_zero,k1]; rfl)
  refine .f c1 hb159 ?_ (ha:=by simp (disch:=first|exact zd|fail) [idf_Wd',k1])
  refine .k 15 (fun fs5 hfs5=>?_) (by simp (disch:=first|exact zd|fail) [List.take_succ_cons,List.take_zero,k1]; rfl)
  refine .r 20 (by simp only[ln,hfs3,hfs4,hfs5];omega) ?_ (by simp (disch:=first|exact zd|fail) [k1]; rfl)
  refine hK2 _ ?_
  refine .ret ?_
  exact hK _ _ _ _ trivial ((Fin.m).cast (by unfold onF; rw [k1]; rfl))
 ·cases k2 : decide (cmV p (ptS s.b) ≤ 0)
  ·refine .d 20 ?_
   refine .k 2 (fun fs6 hfs6=>?_) (by simp (disch:=first|exact zd|fail) [List.take_succ_cons,List.take_zero,k1,k2]; rfl)
   refine .f o1 hb155 ?_ (ha:=by simp (disch:=first|exact zd|fail) [idf_Wd',k1,k2])
   refine .k 1 (fun fs7 hfs7=>?_) (by simp (disch:=first|exact zd|fail) [List.take_succ_cons,List.take_zero,k1,k2]; rfl)
   refine .f c1 hb159 ?_ (ha:=by simp (disch:=first|exact zd|fail) [idf_Wd',k1,k2])
   refine .k 5 (fun fs8 hfs8=>?_) (by simp (disch:=first|exact zd|fail) [List.take_succ_cons,List.take_zero,k1,k2]; rfl)
   refine .f o2 hb155 ?_ (ha:=by simp (disch:=first|exact zd|fail) [idf_Wd',k1,k2])
   refine .f c2 hb159 ?_ (ha:=by simp (disch:=first|exact zd|fail) [idf_Wd',k1,k2])
   refine .k 8 (fun fs9 hfs9=>?_) (by simp (disch:=first|exact zd|fail) [List.take_succ_cons,List.take_zero,k1,k2]; rfl)
   refine .r 20 (by simp only[ln,hfs6,hfs7,hfs8,hfs9];omega) ?_ (by simp (disch:=first|exact zd|fail) [k1,k2]; rfl)
   refine hK2 _ ?_
   refine .ret ?_
   exact hK _ _ _ _ trivial ((Fin.m).cast (by unfold onF; rw [k1,k2]; rfl))
  ·refine .d 20 ?_
   refine .k 2 (fun fs10 hfs10=>?_) (by simp (disch:=first|exact zd|fail) [List.take_succ_cons,List.take_zero,k1,k2]; rfl)
   refine .f o1 hb155 ?_ (ha:=by simp (disch:=first|exact zd|fail) [idf_Wd',k1,k2])
   refine .k 1 (fun fs11 hfs11=>?_) (by simp (disch:=first|exact zd|fail) [List.take_succ_cons,List.take_zero,k1,k2]; rfl)
   refine .f c1 hb159 ?_ (ha:=by simp (disch:=first|exact zd|fail) [idf_Wd',k1,k2])
   refine .k 5 (fun fs12 hfs12=>?_) (by simp (disch:=first|exact zd|fail) [List.take_succ_cons,List.take_zero,k1,k2]; rfl)
   refine .f o2 hb155 ?_ (ha:=by simp (disch:=first|exact zd|fail) [idf_Wd',k1,k2])
   refine .f c2 hb159 ?_ (ha:=by simp (disch:=first|exact zd|fail) [idf_Wd',k1,k2])
   refine .k 5 (fun fs13 hfs13=>?_) (by simp (disch:=first|exact zd|fail) [List.take_succ_cons,List.take_zero,k1,k2]; rfl)
   refine .f (sideOfI_fc s p gs hp) hb187 ?_ (ha:=by simp (disch:=first|exact zd|fail) [idf_Wd',k1,k2])
   refine .k 2 (fun fs14 hfs14=>?_) (by simp (disch:=first|exact zd|fail) [List.take_succ_cons,List.take_zero,k1,k2]; rfl)
   refine .r 20 (by simp only[ln,hfs10,hfs11,hfs12,hfs13,hfs14];omega) ?_ (by simp (disch:=first|exact zd|fail) [k1,k2]; rfl)
   refine hK2 _ ?_
   refine .ret ?_
   exact hK _ _ _ _ trivial ((Fin.mk (r:=.bool (sdF s p == 0)) (by simp [aRes,aResL,aRes1]; try rfl)).cast (by unfold onF; rw [k1,k2]; rfl))
end

end Go.Proofs.YtjbbbkfdcegfmaaGreat

/- Walks: on which side of a ring a point is; FnExactRingIn, walked. -/
namespace Go.Proofs.YtjbbbkfdcegfmaaGreat
open Go Go.RowKit
set_option linter.unusedSimpArgs false
set_option linter.unusedVariables false
set_option maxRecDepth 100000
attribute [local simp] szT2 byT2 agT2 unT2 zoT2 szT83 byT83 agT83 flT83 fdT83_0 fdT83_1 zoT83 szT85 byT85 agT85 flT85 fdT85_0 fdT85_1 zoT85 szT105 byT105 agT105 flT105 fdT105_0 fdT105_1 zoT105 szT107 byT107 agT107 flT107 fdT107_0 fdT107_1 fdT107_2 zoT107

section
attribute [local simp] idf_numS cells_numS numS_fold idf_numI cells_numI numI_fold Sp.av Sp.cells Sg.av Sg.cells Pt.av Pt.cells l3A l3C
set_option maxHeartbeats 1000000 in
theorem l4On_fc (a b : Sp) (ga : a.good = true) (gb : b.good = true) (p : Pt) (hp : p.ok) : FC Tryz.prog 100 [.agg [.int .i64 a.x,.int .i64 a.y,.int .i64 b.x,.int .i64 b.y],l3A p.x.v p.y.v p.w.v] (.bool (btS (ptS a) (ptS b) p)):=by
 obtain ⟨a1,a2,a3⟩:=ptS_v ga
 obtain ⟨b1,b2,b3⟩:=ptS_v gb
 have ba:=Sp.b ga
 have bb:=Sp.b gb
 have sa:=l3Spot_fc a.x a.y (by omega) (by omega) (by omega) (by omega)
 have sb:=l3Spot_fc b.x b.y (by omega) (by omega) (by omega) (by omega)
 have k:=l3Between_fc (ptS a) (ptS b) p (pt3_ok _ _ _) (pt3_ok _ _ _) hp
 rw [a1,a2,a3,b1,b2,b3] at k
 refine .b Tryz.func100 13 (fun nx K hK=>?_) (hi:=by simp [idfL,idf,l3A,l3C,idf_Wd'])
 refine .q ?_
 refine .sq fun K2 hK2=>?_
 refine .d 8 ?_
 refine .k 2 (fun fs3 hfs3=>?_)
 refine .f sa hb151 ?_
 refine .k 2 (fun fs4 hfs4=>?_)
 refine .f sb hb151 ?_
 refine .k 1 (fun fs5 hfs5=>?_)
 refine .f k hb136 ?_
 refine .r 8 (by simp only[ln,hfs3,hfs4,hfs5];omega) ?_
 refine hK2 _ ?_
 refine .ret ?_
 exact hK _ _ _ _ trivial (Fin.m)
end

end Go.Proofs.YtjbbbkfdcegfmaaGreat

/- Walks: sides of layers in order. -/
namespace Go.Proofs.YtjbbbkfdcegfmaaGreat
open Go Go.RowKit
set_option linter.unusedSimpArgs false
set_option linter.unusedVariables false
set_option maxRecDepth 100000
attribute [local simp] szT3 byT3 agT3 unT3 zoT3 szT175 byT175 agT175 elT175 unT175 zoT175 srT175 ixT175 lnT175

set_option maxHeartbeats 1000000 in
theorem cmpOr_fc (l : List Int) (hl : l.length ≤ 1048576) : FC Tryz.prog 108 [Wd .i64 l] (.int .i64 (orL l)):=by
 refine .b Tryz.func108 18 (fun nx K hK=>?_)
 refine .q ?_
 refine .q ?_
 refine .sq fun K3 hK3=>?_
 refine .q ?_
 refine .block ?_
 
 refine .loop (fun N s=>∃ i : Nat,N = l.length - i ∧ i ≤ l.length ∧ (orL l = orL (l.drop i)) ∧ s.env 3 = .int .i64 0 ∧ s.env 6 = Wd .i64 l ∧ s.env 7 = .int .i64 (l.length : Int) ∧ s.env 8 = .int .i64 (i : Int) ∧ s.nt = 18) (l.length) (by refine ⟨0,by omega,by omega,rfl,?_,?_,?_,?_,rfl⟩ <;> first|(simp (disch:=omega);done)|omega|(simp;done)|(simp;omega)) ?_
 rintro N ⟨e,H,mm,nt⟩ ⟨i,rfl,hi,hv,g3,g6,g7,g8,rfl⟩
 simp only [] at g3 g6 g7 g8
 refine .q ?_ (by simp (disch:=first|exact zd|fail) [g7,g8]; rfl)
 refine .sq fun K6 hK6=>?_
 refine .c (fun h9=>?_) (fun h9=>?_)
 ·try simp only[dc]at h9
  have hi' : i < l.length:=by omega
  rw [orL_step hi'] at hv
  refine .skip ?_
  refine hK6 _ ?_
  refine .sq fun K7 hK7=>?_
  refine .block ?_
  refine .q ?_ (by simp (disch:=first|exact zd|fail) [if_pos,g6,g8]; rfl)
  refine .q ?_ (by simp (disch:=first|exact zd|fail) [g3]; rfl)
  refine .c (t:=gt l i != 0) (fun h14=>?_) (fun h14=>?_) (by simp (disch:=first|exact zd|fail) [bne])
  ·try simp only[dc]at h14
   rw [if_pos (by simpa using h14)] at hv
   refine .q ?_
   refine .ret ?_
   exact hK _ _ _ _ trivial ((Fin.m).cast (by rw [hv]))
  ·try simp only[dc]at h14
   rw [if_neg (by simpa using h14)] at hv
   refine .skip ?_
   refine hK7 _ ?_
   refine .r ?_ (by simp (disch:=first|exact zd|fail) [g3,g6,g7,g8]; rfl)
   refine ⟨l.length - (i + 1),by omega,i + 1,rfl,by omega,hv,?_,?_,?_,?_,rfl⟩ <;> first|(simp (disch:=omega) [g3,g6,g7,g8];done)|omega|(simp;done)|(simp;omega)
 ·try simp only[dc]at h9
  have hin : i = l.length:=by omega
  rw [hin,List.drop_length] at hv
  refine .exit ?_
  refine hK3 _ ?_
  refine .q ?_ (by simp (disch:=first|exact zd|fail) [g3]; rfl)
  refine .ret ?_
  exact hK _ _ _ _ trivial ((Fin.m).cast (by rw [hv]; rfl))

end Go.Proofs.YtjbbbkfdcegfmaaGreat

/- Walks: drawn segments and points; rows of numbers compared. -/
namespace Go.Proofs.YtjbbbkfdcegfmaaGreat
open Go Go.RowKit
set_option linter.unusedSimpArgs false
set_option linter.unusedVariables false
set_option maxRecDepth 100000


theorem wd_at {l : List Int} {i : Nat} (h : i < l.length) : (wd .i64 l)[i]? = some [.int .i64 (gt l i)]:=by
  unfold wd gt; rw [List.getElem?_map,List.getElem?_eq_getElem h]; simp



end Go.Proofs.YtjbbbkfdcegfmaaGreat

/- Walks: slices.SortFunc of points, by the kit's contract. -/
namespace Go.Proofs.YtjbbbkfdcegfmaaGreat
open Go Go.RowKit
set_option linter.unusedSimpArgs false
set_option linter.unusedVariables false
set_option maxRecDepth 100000

def sortPt_lay_ren : Go.Shelf.Ren:=⟨fun | 6=>157 | 15=>162 | 14=>200 | 28=>211 | 29=>212 | 20=>246 | 21=>247 | 22=>248 | 23=>249 | 24=>250 | 25=>251 | 26=>252 | 27=>253 | 46=>266 | 47=>255 | 48=>256 | 49=>267 | 50=>268 | 57=>272 | n=>n,fun | 22=>37 | 24=>62 | 25=>212 | 3=>3 | 39=>216 | 0=>0 | 53=>223 | 55=>52 | 4=>4 | 46=>252 | 45=>251 | 50=>150 | 5=>5 | 9=>9 | 66=>286 | 70=>290 | 76=>300 | 77=>301 | n=>n,fun | n=>n⟩
theorem sortPt_lay : SlLaysF0.n6 Tryz.prog sortPt_lay_ren:={
 mixed:=by kernel_rfl
 f6:=⟨Tryz.f157.name,by decide,Tryz.func157.trans (congrArg some (by kernel_rfl))⟩
 f14:=⟨Tryz.f200.name,by decide,Tryz.func200.trans (congrArg some (by kernel_rfl))⟩
 f15:=Tryz.func162.trans (congrArg some (by kernel_rfl))
 f20:=⟨Tryz.f246.name,by decide,Tryz.func246.trans (congrArg some (by kernel_rfl))⟩
 f21:=⟨Tryz.f247.name,by decide,Tryz.func247.trans (congrArg some (by kernel_rfl))⟩
 f22:=⟨Tryz.f248.name,by decide,Tryz.func248.trans (congrArg some (by kernel_rfl))⟩
 f23:=⟨Tryz.f249.name,by decide,Tryz.func249.trans (congrArg some (by kernel_rfl))⟩
 f24:=⟨Tryz.f250.name,by decide,Tryz.func250.trans (congrArg some (by kernel_rfl))⟩
 f25:=⟨Tryz.f251.name,by decide,Tryz.func251.trans (congrArg some (by kernel_rfl))⟩
 f26:=⟨Tryz.f252.name,by decide,Tryz.func252.trans (congrArg some (by kernel_rfl))⟩
 f27:=⟨Tryz.f253.name,by decide,Tryz.func253.trans (congrArg some (by kernel_rfl))⟩
 f28:=Tryz.func211.trans (congrArg some (by kernel_rfl))
 f29:=Tryz.func212.trans (congrArg some (by kernel_rfl))
 f46:=⟨Tryz.f266.name,by decide,Tryz.func266.trans (congrArg some (by kernel_rfl))⟩
 f47:=Tryz.func255.trans (congrArg some (by kernel_rfl))
 f48:=Tryz.func256.trans (congrArg some (by kernel_rfl))
 f49:=⟨Tryz.f267.name,by decide,Tryz.func267.trans (congrArg some (by kernel_rfl))⟩
 f50:=⟨Tryz.f268.name,by decide,Tryz.func268.trans (congrArg some (by kernel_rfl))⟩
 f57:=⟨Tryz.f272.name,by decide,Tryz.func272.trans (congrArg some (by kernel_rfl))⟩
 t0:=Tryz.underlying0
 a0:=Tryz.isAgg0
 z0:=Tryz.sizeOf0
 v0:=Tryz.zeroValue0
 t3:=Tryz.underlying3
 a3:=Tryz.isAgg3
 z3:=Tryz.sizeOf3
 v3:=Tryz.zeroValue3
 t4:=Tryz.underlying4
 a4:=Tryz.isAgg4
 z4:=Tryz.sizeOf4
 v4:=Tryz.zeroValue4
 t5:=Tryz.underlying5
 a5:=Tryz.isAgg5
 z5:=Tryz.sizeOf5
 v5:=Tryz.zeroValue5
 t9:=Tryz.underlying9
 a9:=Tryz.isAgg9
 z9:=Tryz.sizeOf9
 v9:=Tryz.zeroValue9
 t22:=Tryz.underlying37
 a22:=Tryz.isAgg37
 z22:=Tryz.sizeOf37
 v22:=Tryz.zeroValue37
 t25:=Tryz.underlying212
 a25:=Tryz.isAgg212
 z25:=Tryz.sizeOf212
 v25:=Tryz.zeroValue212
 t39:=Tryz.underlying216
 a39:=Tryz.isAgg216
 z39:=Tryz.sizeOf216
 v39:=Tryz.zeroValue216
 t45:=Tryz.underlying251
 a45:=Tryz.isAgg251
 z45:=Tryz.sizeOf251
 v45:=Tryz.zeroValue251
 t46:=Tryz.underlying252
 a46:=Tryz.isAgg252
 z46:=Tryz.sizeOf252
 v46:=Tryz.zeroValue252
 t50:=Tryz.underlying150
 a50:=Tryz.isAgg150
 z50:=Tryz.sizeOf150
 v50:=Tryz.zeroValue150
 t53:=Tryz.underlying223
 a53:=Tryz.isAgg223
 z53:=Tryz.sizeOf223
 v53:=Tryz.zeroValue223
 t55:=Tryz.underlying52
 a55:=Tryz.isAgg52
 z55:=Tryz.sizeOf52
 v55:=Tryz.zeroValue52
 t66:=Tryz.underlying286
 a66:=Tryz.isAgg286
 z66:=Tryz.sizeOf286
 v66:=Tryz.zeroValue286
 t70:=Tryz.underlying290
 a70:=Tryz.isAgg290
 z70:=Tryz.sizeOf290
 v70:=Tryz.zeroValue290
 t76:=Tryz.underlying300
 a76:=Tryz.isAgg300
 z76:=Tryz.sizeOf300
 v76:=Tryz.zeroValue300
 t77:=Tryz.underlying301
 a77:=Tryz.isAgg301
 z77:=Tryz.sizeOf301
 v77:=Tryz.zeroValue301 }
theorem sortPt_ac {α : Type} [Inhabited α] (P : α → Pt) (cv : α → α → Int) (f : Nat) (caps : List AV) (hc : CmpF Tryz.prog f caps (fun x=>.agg (Pt.cells (P x))) cv) (hswo : Sort.SWO (ltc cv)) (d : Array α) (n id : Nat) (HP : Heap) (nx : Nat) (hn : d.size = n) (hH : HP id = some (12,rwA (fun x=>(Pt.cells (P x))) d)) (_hid : id < nx) (hl : n ≤ 1099511627776) : ACall Tryz.prog 157 [.osl id 0 n,.fn f caps] HP nx (fun r H' nx'=>r = .tup [] ∧ H' = hupd HP id (some (12,rwA (fun x=>(Pt.cells (P x))) (Sort.sort (ltc cv) d))) ∧ nx ≤ nx') :=
  sortK_ac sortPt_lay Tryz.isAgg62 Tryz.sizeOf62 (fun _=>rfl) (fun _=>rfl) cv f caps hc hswo d n id HP nx hn hH hl



end Go.Proofs.YtjbbbkfdcegfmaaGreat

/- Walks: hits: the segments on which a point lies; a point put into a map and a row. -/
namespace Go.Proofs.YtjbbbkfdcegfmaaGreat
open Go Go.RowKit
set_option linter.unusedSimpArgs false
set_option linter.unusedVariables false
set_option maxRecDepth 100000
attribute [local simp] szT2 byT2 agT2 unT2 zoT2 szT3 byT3 agT3 unT3 zoT3 szT24 byT24 agT24 elT24 unT24 zoT24 szT27 byT27 agT27 elT27 unT27 zoT27 szT60 byT60 agT60 flT60 fdT60_0 fdT60_1 fdT60_2 fdT60_3 zoT60 szT62 byT62 agT62 flT62 fdT62_0 fdT62_1 fdT62_2 zoT62 szT83 byT83 agT83 flT83 fdT83_0 fdT83_1 zoT83 szT85 byT85 agT85 flT85 fdT85_0 fdT85_1 zoT85 srT24 ixT24 lnT24 srT27

theorem onL_step (L : List Sg) (p : Pt) (i : Nat) : onN L p (i + 1) = onN L p i ++ (if onF (gq L i) p = true then [(i : Int)] else []):=rfl
theorem onL_yes {L : List Sg} {p : Pt} {i : Nat} (h : onF (gq L i) p = true) : onN L p (i + 1) = onN L p i ++ [(i : Int)]:=by rw [onL_step,if_pos h]
theorem onL_no {L : List Sg} {p : Pt} {i : Nat} (h : onF (gq L i) p = false) : onN L p (i + 1) = onN L p i:=by rw [onL_step,h]; simp

section
attribute [local simp] idf_numS cells_numS numS_fold idf_numI cells_numI numI_fold Sp.av Sp.cells Sg.av Sg.cells Pt.av Pt.cells
set_option maxHeartbeats 4000000 in
theorem hitAt_own (L : List Sg) (p : Pt) (hp : p.ok) (hl : L.length ≤ 1048576) (z2 : ∀ s ∈ L,s.good = true) (nx : Nat) : ACall Tryz.prog 160 [.isl (L.map Sg.cells),p.av] (fun _=>none) nx (own1 nx 1 (wd .i64 (onL L p)) (fun id=>.osl id 0 (onL L p).length)):=by
 refine .b Tryz.func160 25 fun K hK=>?_
 refine .q ?_
 refine .q ?_
 refine .sq fun K3 hK3=>?_
 refine AWP.frz1 3 nx 12 [(Pt.cells p)] (.ip (Pt.cells p)) (by simp (disch:=omega) [Pt.cells]) (by simp (disch:=omega) [fz,Pt.cells]) ?_
 refine .q ?_ (by simp (disch:=first|exact zd|fail) [List.length_map]; rfl)
 refine .block ?_
 
 refine .loop (fun N s=>∃ i : Nat,∃ C : List Int,∃ io : Nat,N = L.length - i ∧ i ≤ L.length ∧ (C = onN L p i) ∧ (nx ≤ io) ∧ s.env 0 = .isl (L.map Sg.cells) ∧ s.env 3 = .ip (Pt.cells p) ∧ s.env 5 = .osl io 0 C.length ∧ s.env 9 = .isl (L.map Sg.cells) ∧ s.env 10 = .int .i64 (L.length : Int) ∧ s.env 11 = .int .i64 (i : Int) ∧ s.heap io = some (1,wd .i64 C) ∧ io < s.nx ∧ s.nt = 25) (L.length) (by refine ⟨0,[],(nx + 1),by omega,by omega,rfl,by omega,?_,?_,?_,?_,?_,?_,?_,?_,rfl⟩ <;> first|(simp (disch:=omega) [wd];done)|omega|(simp;done)|(simp;omega)) ?_
 rintro N ⟨e,H,mm,nt⟩ ⟨i,C,io,rfl,hi,hC,hio,g0,g3,g5,g9,g10,g11,Ho,xo,rfl⟩
 simp only [] at g0 g3 g5 g9 g10 g11 Ho xo
 refine .q ?_ (by simp (disch:=first|exact zd|fail) [g10,g11]; rfl)
 refine .sq fun K6 hK6=>?_
 refine .c (fun h12=>?_) (fun h12=>?_)
 ·try simp only[dc]at h12
  have hi' : i < L.length:=by omega
  have hat:=gq_get hi'
  obtain ⟨s0,hs0⟩ : ∃ s0,s0 = gq L i:=⟨_,rfl⟩
  have gs:=z2 _ (gq_mem hi')
  rw [← hs0] at gs
  have hat2 : (L.map Sg.cells)[i]? = some (Sg.cells s0):=by rw [List.getElem?_map,hat,hs0]; rfl
  have hae2 : ∀ h : i < (L.map Sg.cells).length,(L.map Sg.cells)[i] = Sg.cells s0:=fun h=>by rw [List.getElem?_eq_getElem h] at hat2; simpa using hat2
  refine .skip ?_
  refine hK6 _ ?_
  refine .sq fun K7 hK7=>?_
  refine .block ?_
  refine .q ?_ (by simp (disch:=first|exact zd|fail) [if_pos,g0,g3,g5,g9,g10,g11,Ho,hat2,hae2,hi',List.length_map]; rfl)
  refine .sq fun K9 hK9=>?_
  refine .region ?_
  refine .kf 2 (onSegI_fc s0 p gs hp) hb201 ?_ (by simp (disch:=first|exact zd|fail) [List.take_succ_cons,List.take_zero,g0,g3,g5,g9,g10,g11,Ho]; rfl) (ha:=by simp (disch:=first|exact zd|fail) [idf_Wd',g0,g3,g5,g9,g10,g11,Ho])
  refine .nil ?_
  refine hK9 _ ?_
  refine .c (t:=onF s0 p) (fun h18=>?_) (fun h18=>?_)
  ·try simp only[dc]at h18
   rw [hs0] at h18
   have hC' : C ++ [(i : Int)] = onN L p (i + 1):=by rw [onL_yes h18,hC]
   have hCl:=onN_len L p i
   rw [← hC] at hCl
   have hc1 : (C.length + 1) * 8 ≤ 140737488355328:=by omega
   have hc2 : C.length ≤ 9223372036854775806:=by omega
   have hwl : (wd .i64 C).length = C.length:=List.length_map _
   have htk : List.take C.length (wd .i64 C) = wd .i64 C:=List.take_of_length_le (Nat.le_of_eq hwl)
   refine .region ?_
   refine .k 3 ?_ (by simp (disch:=first|exact zd|fail) [List.take_succ_cons,List.take_zero,g0,g3,g5,g9,g10,g11,Ho]; rfl)
   refine AOPS.opapp (by simp (disch:=first|exact zd|fail) [if_pos,wd_append,wd_take,wd_drop,List.nil_append,hc1,hc2,hwl,htk,Ho]; first | rfl | exact ⟨rfl,rfl⟩ | exact ⟨rfl,rfl,rfl⟩) (by simp) (by simp) ?_
   simp only [puts_some,hdrop]
   refine .e ?_ (by simp (disch:=first|exact zd|fail) [g0,g3,g5,g9,g10,g11,Ho]; rfl)
   refine hK7 _ ?_
   refine .r ?_ (by simp (disch:=first|exact zd|fail) [g0,g3,g5,g9,g10,g11,Ho]; rfl)
   refine ⟨L.length - (i + 1),by omega,i + 1,C ++ [(i : Int)],(mm + 1 + 1),rfl,by omega,hC',by first|omega|(simp;omega),?_,?_,?_,?_,?_,?_,?_,?_,rfl⟩ <;> first|(simp (disch:=omega) [wd_append,List.length_append,hwl,htk,g0,g3,g5,g9,g10,g11,Ho];done)|omega|(simp;done)|(simp;omega)
  ·try simp only[dc]at h18
   rw [hs0] at h18
   have hC' : C = onN L p (i + 1):=by rw [onL_no h18]; exact hC
   refine .skip ?_
   refine hK7 _ ?_
   refine .r ?_ (by simp (disch:=first|exact zd|fail) [g0,g3,g5,g9,g10,g11,Ho]; rfl)
   refine ⟨L.length - (i + 1),by omega,i + 1,C,io,rfl,by omega,hC',hio,?_,?_,?_,?_,?_,?_,?_,?_,rfl⟩ <;> first|(simp (disch:=omega) [g0,g3,g5,g9,g10,g11,Ho];done)|omega|(simp;done)|(simp;omega)
 ·try simp only[dc]at h12
  have hin : i = L.length:=by omega
  subst hin
  have hCs : C = onL L p:=hC
  subst hCs
  refine .exit ?_
  refine hK3 _ ?_
  refine .q ?_ (by simp (disch:=first|exact zd|fail) [g5]; rfl)
  refine .ret ?_
  exact hK _ _ _ _ _ trivial (Fin.own1 (Fin.mk (by simp (disch:=omega) [aRes,aResL,aRes1]; try rfl)) (id:=io) (by simp [Ho])) (⟨io,by first | omega | (simp; done) | (simp; omega),by first | omega | (simp; done) | (simp; omega),rfl,rfl⟩)
end

end Go.Proofs.YtjbbbkfdcegfmaaGreat

/- Walks: hits: points, each once, by a map. -/
namespace Go.Proofs.YtjbbbkfdcegfmaaGreat
open Go Go.RowKit
set_option linter.unusedSimpArgs false
set_option linter.unusedVariables false
set_option maxRecDepth 100000
attribute [local simp] szT37 byT37 agT37 elT37 unT37 zoT37 szT60 byT60 agT60 flT60 fdT60_0 fdT60_1 fdT60_2 fdT60_3 zoT60 szT62 byT62 agT62 flT62 fdT62_0 fdT62_1 fdT62_2 zoT62 szT205 byT205 agT205 unT205 zoT205 srT37

theorem pt_rv_inj {p q : Pt} (h : (Pt.cells p).map rv = (Pt.cells q).map rv) : p = q:=by
  obtain ⟨⟨a1,a2,a3,a4⟩,⟨b1,b2,b3,b4⟩,⟨c1,c2,c3,c4⟩⟩:=p
  obtain ⟨⟨d1,d2,d3,d4⟩,⟨e1,e2,e3,e4⟩,⟨f1,f2,f3,f4⟩⟩:=q
  simpa [Pt.cells,rv,and_assoc] using h
def okG (_ : GP) : Prop:=True
def kvG (g : GP) : AV:=.agg (Pt.cells g.1)
theorem u64_wf {n : Int} (h : U64 n) : (Lit.int .u64 n).wf = true:=by
  have e1 : IntKind.u64.min = 0:=rfl
  have e2 : IntKind.u64.max = 18446744073709551615:=rfl
  unfold U64 at h
  simp only [Lit.wf,e1,e2,Bool.and_eq_true,decide_eq_true_eq]; omega
theorem w4_lits {x : W4} (h : x.ok) (d : Nat) : ∃ ls,Tryz.prog.keyLits (d + 1 + 1) 60 [.int .u64 x.a,.int .u64 x.b,.int .u64 x.c,.int .u64 x.d] = some ls:=by
  obtain ⟨h1,h2,h3,h4⟩:=h
  refine kl_struct Tryz.underlying60 (by kernel_rfl) (by kernel_rfl) ?_
  have e : Tryz.prog.cellsOf 52 = 1:=by kernel_rfl
  intro f hf
  simp only [List.mem_cons,List.not_mem_nil,or_false] at hf
  rcases hf with rfl | rfl | rfl | rfl <;> simp only [e,List.drop_succ_cons,List.drop_zero,List.take_succ_cons,List.take_zero] <;> exact ⟨_,kl_word Tryz.underlying52 d (u64_wf (by assumption))⟩
theorem pt_lits {p : Pt} (h : p.ok) (d : Nat) : ∃ ls,Tryz.prog.keyLits (d + 1 + 1 + 1) 62 ((Pt.cells p).map rv) = some ls:=by
  obtain ⟨h1,h2,h3⟩:=h
  refine kl_struct Tryz.underlying62 (by kernel_rfl) (by kernel_rfl) ?_
  have e : Tryz.prog.cellsOf 60 = 4:=by kernel_rfl
  intro f hf
  simp only [List.mem_cons,List.not_mem_nil,or_false] at hf
  rcases hf with rfl | rfl | rfl <;> simp only [e,Pt.cells,List.map_cons,List.map_nil,rv,List.drop_succ_cons,List.drop_zero,List.take_succ_cons,List.take_zero] <;> exact w4_lits (by assumption) d
theorem keyG : KeyT Tryz.prog 62 okG kvG:=by
  refine ⟨deep_law (m:=4) (by omega) (by kernel_rfl) (by kernel_rfl) (by rw [Tryz.underlying62]),fun g u _ hu=>?_,fun g u v h1 h2=>?_,fun g k u h1 h2=>?_⟩
  · have hu':=pv_agg rfl hu
    obtain ⟨ls,hls⟩:=pt_lits g.2.1 (Tryz.prog.types.size - 2)
    have hs : Tryz.prog.types.size - 2 + 1 + 1 + 1 = Tryz.prog.types.size + 1:=by kernel_rfl
    rw [hs] at hls
    refine ⟨.string (keyBytes ls),?_⟩
    have e1 : Tryz.prog.keyType 62 = true:=by kernel_rfl
    have e2 : (Value.agg ((Pt.cells g.1).map rv).toArray).formed Tryz.prog 62 = true:=by kernel_rfl
    rw [hu']
    unfold keyOf
    rw [Tryz.underlying62]
    simp only [e1,e2,Bool.and_self,if_true,Value.cells]
    rw [hls]; rfl
  · rw [pv_agg rfl h1,pv_agg rfl h2]
  · have:=(pv_agg rfl h1).symm.trans (pv_agg rfl h2)
    simp only [Value.agg.injEq] at this
    exact Subtype.ext (pt_rv_inj (by simpa using congrArg Array.toList this))
theorem zvB : zv1 Tryz.prog 4 (.bool false):=zv1_of (z:=.bool false) (by kernel_rfl) (fun _ _ _=>rfl)
theorem unM : Tryz.prog.underlying 205 = some (.map 62 4):=Tryz.underlying205
theorem zoM : zOf Tryz.prog 205 = some [.junk]:=by kernel_rfl
theorem szM : szOf Tryz.prog 205 = some 1:=by kernel_rfl
theorem agM : aggT Tryz.prog 205 = some false:=by kernel_rfl

section
attribute [local simp] idf_numS cells_numS numS_fold idf_numI cells_numI numI_fold Pt.cells
set_option maxHeartbeats 4000000 in
theorem add_mc (A : List GP) (g : GP) (m mid pid did : Nat) (HP : Heap) (nx : Nat) (M : MS GP) (hm : HP mid = some (1,[[.raw (.map (some m))]])) (hp : HP pid = some (1,[[.osl did 0 A.length]])) (hd : HP did = some (12,A.map cellsG)) (x1 : mid < nx) (x2 : pid < nx) (x3 : did < nx) (n1 : mid ≠ pid) (n2 : did ≠ pid) (n3 : did ≠ mid) (hM : M m = some (memF A)) (hA : A.length ≤ 1048576) : MCall okG kvG Tryz.prog 154 [.agg (Pt.cells g.1),.ptr mid 0 0,.ptr pid 0 0] HP nx M (fun r H' nx' M'=>r = .tup [] ∧ nx ≤ nx' ∧ H' mid = some (1,[[.raw (.map (some m))]]) ∧ (∃ d',d' < nx' ∧ d' ≠ mid ∧ d' ≠ pid ∧ H' pid = some (1,[[.osl d' 0 (addP A g).length]]) ∧ H' d' = some (12,(addP A g).map cellsG)) ∧ M' m = some (memF (addP A g))):=by
 refine .b Tryz.func154 14 fun K hK=>?_
 refine .q ?_
 refine .sq fun K2 hK2=>?_
 refine .region ?_
 refine .k 2 ?_
 refine .e ?_ (by simp (disch:=first|exact zd|fail) [hm,hp,hd,szM,agM]; rfl)
 refine .lookup (a:=g) keyG unM zvB rfl (hm:=by simp (disch:=omega) [hm,hp,hd]) (hk:=by simp (disch:=omega) [kvG,Pt.cells]) rfl trivial (by simp) rfl (by simp) hM ?_
 simp only [Bool.false_eq_true,if_false,memF_get]
 refine .k 1 ?_
 refine .e ?_ (by simp (disch:=first|exact zd|fail) [hm,hp,hd,szM,agM]; rfl)
 refine .nil ?_
 refine hK2 _ _ ?_
 refine .c (t:=!decide (g ∈ A)) (fun h7=>?_) (fun h7=>?_)
 ·try simp only[dc]at h7
  have hg : ¬ g ∈ A:=by simpa using h7
  have hN:=addP_new hg
  have hc1 : (A.length + 1) * 96 ≤ 140737488355328:=by omega
  have hc2 : A.length ≤ 9223372036854775806:=by omega
  have hlm : (A.map cellsG).length = A.length:=List.length_map _
  have htk : List.take A.length (A.map cellsG) = A.map cellsG:=List.take_of_length_le (Nat.le_of_eq hlm)
  have hap : A.map cellsG ++ [Pt.cells g.1] = (A ++ [g]).map cellsG:=by rw [List.map_append]; rfl
  simp only [Pt.cells] at hap
  refine .sq fun K3 hK3=>?_
  refine .region ?_
  refine .k 2 ?_
  refine .e ?_ (by simp (disch:=first|exact zd|fail) [hm,hp,hd,szM,agM]; rfl)
  refine .update (a:=g) (x:=.bool true) keyG unM rfl (hm:=by simp (disch:=omega) [hm,hp,hd]) (hk:=by simp (disch:=omega) [kvG,Pt.cells]) rfl trivial rfl rfl (by simp) rfl hM ?_
  refine .nil ?_
  refine hK3 _ _ ?_
  refine .up ?_
  refine .region ?_
  refine .k 3 ?_ (by simp (disch:=first|exact zd|fail) [List.take_succ_cons,List.take_zero,hm,hp,hd]; rfl)
  refine AOPS.opapp (by simp (disch:=first|exact zd|fail) [if_pos,wd_append,wd_take,wd_drop,List.nil_append,hm,hp,hd,hc1,hc2,hlm,htk,hap]; first | rfl | exact ⟨rfl,rfl⟩ | exact ⟨rfl,rfl,rfl⟩) (by simp) (by simp) ?_
  simp only [puts_some,hdrop]
  refine .e ?_ (by simp (disch:=first|exact zd|fail) [hm,hp,hd]; rfl)
  exact hK _ _ _ _ _ _ trivial (Fin.m) (by
    refine ⟨rfl,?_,?_,⟨nx + 1 + 1,?_,?_,?_,?_,?_⟩,?_⟩ <;> first|omega|(simp (disch:=omega) [hm,hp,hd,hN,hap,hlm];done)|(simp;omega)|(rw [hN]; simp [mupd,fupd_mem]))
 ·try simp only[dc]at h7
  have hg : g ∈ A:=by simpa using h7
  have hN:=addP_in hg
  refine .skip ?_
  exact hK _ _ _ _ _ _ trivial (Fin.m) (by
    rw [hN]
    refine ⟨rfl,?_,?_,⟨did,?_,?_,?_,?_,?_⟩,?_⟩ <;> first|omega|(simp (disch:=omega) [hm,hp,hd,hM];done)|assumption|(simp;omega))
end

end Go.Proofs.YtjbbbkfdcegfmaaGreat

/- Walks: the hits of right segments. -/
namespace Go.Proofs.YtjbbbkfdcegfmaaGreat
open Go Go.RowKit
set_option linter.unusedSimpArgs false
set_option linter.unusedVariables false
set_option maxRecDepth 100000
attribute [local simp] szT2 byT2 agT2 unT2 zoT2 szT3 byT3 agT3 unT3 zoT3 szT24 byT24 agT24 elT24 unT24 zoT24 szT27 byT27 agT27 elT27 unT27 zoT27 szT37 byT37 agT37 elT37 unT37 zoT37 szT60 byT60 agT60 flT60 fdT60_0 fdT60_1 fdT60_2 fdT60_3 zoT60 szT62 byT62 agT62 flT62 fdT62_0 fdT62_1 fdT62_2 zoT62 szT83 byT83 agT83 flT83 fdT83_0 fdT83_1 zoT83 szT85 byT85 agT85 flT85 fdT85_0 fdT85_1 zoT85 szT145 byT145 agT145 elT145 unT145 zoT145 szT148 byT148 agT148 flT148 fdT148_0 fdT148_1 zoT148 szT205 byT205 agT205 unT205 zoT205 srT24 ixT24 lnT24 srT27 srT37 srT145

theorem hitAt_fc (L : List Sg) (p : Pt) (hp : p.ok) (hl : L.length ≤ 1048576) (z2 : ∀ s ∈ L,s.good = true) : FC Tryz.prog 160 [.isl (L.map Sg.cells),.agg (Pt.cells p)] (Wd .i64 (onL L p)) :=
  FC.of_own (z:=1) (es:=wd .i64 (onL L p)) (mk:=fun id=>.osl id 0 (onL L p).length) (by simp [idfL,idf,idfLL_iff,Sg.cells,Pt.av,Pt.cells]) (by simp [idf_Wd']) (fun id=>fz_wd rfl) fun nx=>hitAt_own L p hp hl z2 nx
theorem hitP_len (L : List Sg) : (hitP L).length = (ded (seqM L L.length)).length:=((List.perm_ext_iff_of_nodup (insS_nodup _) (ded_nodup _)).2 fun q=>by rw [insS_mem,ded_mem]).length_eq
theorem srt_hits (L : List Sg) : rwA (fun x : GP=>Pt.cells x.1) (Sort.sort (ltc cmH) (ded (seqM L L.length)).toArray) = (hitP L).map cellsG:=by
  unfold rwA
  rw [show Sort.sort (ltc cmH) = Sort.sort ltH from rfl,ded_sort]; rfl
theorem avCM (g : Option Nat) : avCells (.raw (.map g)) = some [.raw (.map g)]:=rfl
theorem avOM (g : Option Nat) : avOne (.raw (.map g)) = true:=rfl
theorem seqM_step (L : List Sg) (i : Nat) : ded (seqM L i ++ [toG (ptS (gq L i).a)] ++ [toG (ptS (gq L i).b)] ++ rowM L i i) = ded (seqM L (i + 1)):=rfl
theorem rowM_yes {L : List Sg} {i k : Nat} (h : (meetI (gq L i) (gq L k)).1 = 1) (A : List GP) : ded (A ++ rowM L i (k + 1)) = addP (ded (A ++ rowM L i k)) (toG (meetI (gq L i) (gq L k)).2.1):=by
  rw [← ded_snoc,rowM,if_pos h,List.append_assoc]
theorem rowM_no {L : List Sg} {i k : Nat} (h : ¬ (meetI (gq L i) (gq L k)).1 = 1) (A : List GP) : ded (A ++ rowM L i (k + 1)) = ded (A ++ rowM L i k):=by
  rw [rowM,if_neg h,List.append_nil]
theorem idf_hitR (L : List Sg) : idf (.isl (hitR L)):=by
  simp only [idf,idfLL_iff,hitR,List.mem_map]
  rintro x ⟨g,_,rfl⟩
  simp [hitC,idfL,Pt.cells,idf,idf_Wd']
theorem ded_b {L : List Sg} (hl : L.length ≤ 40) {n : Nat} (hn : n ≤ L.length) : (ded (seqM L n)).length ≤ 1680:=by
  have h1:=ded_len (seqM L n)
  have h2:=seqM_len L n
  have h3 : n * (n + 2) ≤ 40 * 42:=Nat.mul_le_mul (by omega) (by omega)
  omega
theorem dedr_b {L : List Sg} (hl : L.length ≤ 40) {n k : Nat} (hn : n < L.length) (hk : k ≤ n) (a b : GP) : (ded (seqM L n ++ [a] ++ [b] ++ rowM L n k)).length ≤ 1722:=by
  have h1:=ded_len (seqM L n ++ [a] ++ [b] ++ rowM L n k)
  have h2:=seqM_len L n
  have h4:=rowM_len L n k
  have h3 : n * (n + 2) ≤ 40 * 42:=Nat.mul_le_mul (by omega) (by omega)
  simp only [List.length_append,List.length_cons,List.length_nil] at h1
  omega

section
attribute [local simp] idf_numS cells_numS numS_fold idf_numI cells_numI numI_fold Pt.av Pt.cells
set_option maxHeartbeats 1000000 in
theorem cmpH_fc (p q : GP) : FC Tryz.prog 158 [.agg (Pt.cells p.1),.agg (Pt.cells q.1)] (.int .i64 (cmH p q)):=by
 refine .b Tryz.func158 8 (fun nx K hK=>?_) (hi:=by simp [idfL,idf,idfLL_iff,Sg.cells,Pt.av,Pt.cells])
 refine .q ?_
 refine .sq fun K2 hK2=>?_
 refine .region ?_
 refine .kf 2 (cmpPoints_fc p.1 q.1 p.2.1 q.2.1) hb159 ?_
 refine .e ?_
 refine hK2 _ ?_
 refine .ret ?_
 exact hK _ _ _ _ trivial (Fin.m)
end
section
attribute [local simp] idf_numS cells_numS numS_fold idf_numI cells_numI numI_fold Sp.av Sp.cells Sg.av Sg.cells Pt.av Pt.cells
set_option maxHeartbeats 8000000 in
theorem hits_fc (L : List Sg) (z1 : L.length ≤ 40) (z2 : ∀ s ∈ L,s.good = true) : FC Tryz.prog 104 [.isl (L.map Sg.cells)] (.isl (hitR L)):=by
 refine .mb okG kvG Tryz.func104 77 (fun nx K hK=>?_) (hi:=by simp [idfL,idf,idfLL_iff,Sg.cells,Pt.av,Pt.cells]) (hr:=idf_hitR L)
 refine .q ?_
 refine .sq fun K2 hK2=>?_
 refine .region ?_
 refine .make rfl (by simp) rfl (by simp) fun m hmn=>?_
 refine .k 5 ?_
 refine .e ?_ (by simp (disch:=first|exact zd|fail) [zoM,szM,agM,avCM,avOM]; rfl)
 refine .nil ?_
 refine hK2 _ _ ?_
 refine .q ?_
 refine .sq fun K4 hK4=>?_
 refine .q ?_ (by simp (disch:=first|exact zd|fail) [List.length_map]; rfl)
 refine .block ?_
 
 refine .loop (fun N s MM=>∃ i : Nat,∃ A : List GP,∃ mid : Nat,∃ pid : Nat,∃ did : Nat,N = L.length - i ∧ i ≤ L.length ∧ (A = ded (seqM L i)) ∧ (MM m = some (memF A)) ∧ (mid ≠ pid) ∧ (did ≠ pid) ∧ (did ≠ mid) ∧ s.env 0 = .isl (L.map Sg.cells) ∧ s.env 4 = .ptr pid 0 0 ∧ s.env 5 = .fn 154 [.ptr mid 0 0,.ptr pid 0 0] ∧ s.env 19 = .isl (L.map Sg.cells) ∧ s.env 20 = .int .i64 (L.length : Int) ∧ s.env 21 = .int .i64 (i : Int) ∧ s.heap mid = some (1,[[.raw (.map (some m))]]) ∧ mid < s.nx ∧ s.heap pid = some (1,[[.osl did 0 A.length]]) ∧ pid < s.nx ∧ s.heap did = some (12,A.map cellsG) ∧ did < s.nx ∧ s.nt = 77) (L.length) (by refine ⟨0,[],(nx + 1),(nx + 1 + 1),nx,by omega,by omega,rfl,by simp; rfl,by omega,by omega,by omega,?_,?_,?_,?_,?_,?_,?_,?_,?_,?_,?_,?_,rfl⟩ <;> first|(simp (disch:=omega);done)|omega|(simp;done)|(simp;omega)) ?_
 rintro N ⟨e,H,mm,nt⟩ MM ⟨i,A,mid,pid,did,rfl,hi,hA,hMM,n1,n2,n3,g0,g4,g5,g19,g20,g21,Hm,xm,Hp,xp,Hd,xd,rfl⟩
 simp only [] at g0 g4 g5 g19 g20 g21 Hm xm Hp xp Hd xd
 refine .q ?_ (by simp (disch:=first|exact zd|fail) [g20,g21]; rfl)
 refine .sq fun K7 hK7=>?_
 refine .c (fun h22=>?_) (fun h22=>?_)
 ·try simp only[dc]at h22
  have hi' : i < L.length:=by omega
  have hat:=gq_get hi'
  obtain ⟨s0,hs0⟩ : ∃ s0,s0 = gq L i:=⟨_,rfl⟩
  have gs:=z2 _ (gq_mem hi')
  rw [← hs0] at gs
  have hat2 : (L.map Sg.cells)[i]? = some (Sg.cells s0):=by rw [List.getElem?_map,hat,hs0]; rfl
  have hae2 : ∀ h : i < (L.map Sg.cells).length,(L.map Sg.cells)[i] = Sg.cells s0:=fun h=>by rw [List.getElem?_eq_getElem h] at hat2; simpa using hat2
  have hAb:=ded_b z1 (Nat.le_of_lt hi')
  rw [← hA] at hAb
  obtain ⟨ga,hga⟩ : ∃ g,g = toG (ptS s0.a):=⟨_,rfl⟩
  have vga : ga.1 = ptS s0.a:=by rw [hga]; exact toG_val (pt3_ok _ _ _) (ptS_gd (good_a gs))
  have oga : FC Tryz.prog 155 [s0.a.av] (.agg (Pt.cells ga.1)):=by rw [vga]; exact pointOfI_fc s0.a (good_a gs)
  obtain ⟨gb,hgb⟩ : ∃ g,g = toG (ptS s0.b):=⟨_,rfl⟩
  have vgb : gb.1 = ptS s0.b:=by rw [hgb]; exact toG_val (pt3_ok _ _ _) (ptS_gd (good_b gs))
  have ogb : FC Tryz.prog 155 [s0.b.av] (.agg (Pt.cells gb.1)):=by rw [vgb]; exact pointOfI_fc s0.b (good_b gs)
  refine .skip ?_
  refine hK7 _ _ ?_
  refine .sq fun K8 hK8=>?_
  refine .block ?_
  refine .q ?_ (by simp (disch:=first|exact zd|fail) [if_pos,g0,g4,g5,g19,g20,g21,Hm,Hp,Hd,hat2,hae2,hi',List.length_map]; rfl)
  refine .sq fun K10 hK10=>?_
  refine MWP.frz1 7 mm 4 [[.int .i64 s0.a.x,.int .i64 s0.a.y,.int .i64 s0.b.x,.int .i64 s0.b.y]] (.ip [.int .i64 s0.a.x,.int .i64 s0.a.y,.int .i64 s0.b.x,.int .i64 s0.b.y]) (by simp (disch:=omega) [Sg.cells]) (by simp (disch:=omega) [fz,Sg.cells]) ?_
  refine .region ?_
  refine .k 4 ?_
  refine .kf 3 oga hb155 ?_ (by simp (disch:=first|exact zd|fail) [List.take_succ_cons,List.take_zero,g0,g4,g5,g19,g20,g21,Hm,Hp,Hd]; rfl) (ha:=by simp (disch:=first|exact zd|fail) [idf_Wd',g0,g4,g5,g19,g20,g21,Hm,Hp,Hd])
  refine .nil ?_
  refine .mcall (add_mc A ga m mid pid did _ _ _ (by simp (disch:=omega) [Hm]) (by simp (disch:=omega) [Hp]) (by simp (disch:=omega) [Hd]) (by first|omega|(simp;omega)) (by first|omega|(simp;omega)) (by first|omega|(simp;omega)) n1 n2 n3 hMM (by omega)) rfl rfl (by simp (disch:=omega) [g5]; rfl) hb154 (by simp (disch:=omega) [g5,Pt.cells]) (by simp) (by simp) ?_
  rintro _ H1 nx1 M1 ⟨rfl,hn1,hm1,⟨d1,xd1,na1,nb1,hp1,hd1⟩,hM1⟩
  simp only [] at hn1
  simp only [puts_none,puts_some]
  refine .nil ?_
  refine hK10 _ _ ?_
  refine .sq fun K11 hK11=>?_
  refine .region ?_
  refine .k 4 ?_
  refine .kf 3 ogb hb155 ?_ (by simp (disch:=first|exact zd|fail) [List.take_succ_cons,List.take_zero,g0,g5,hm1,hp1,hd1]; rfl) (ha:=by simp (disch:=first|exact zd|fail) [idf_Wd',g0,g5,hm1,hp1,hd1])
  refine .nil ?_
  have hAb1:=(addP_len A ga).2
  refine .mcall (add_mc (addP A ga) gb m mid pid d1 _ _ _ (by simp (disch:=omega) [hm1]) (by simp (disch:=omega) [hp1]) (by simp (disch:=omega) [hd1]) (by first|omega|(simp;omega)) (by first|omega|(simp;omega)) (by first|omega|(simp;omega)) n1 nb1 na1 hM1 (by omega)) rfl rfl (by simp (disch:=omega) [g5]; rfl) hb154 (by simp (disch:=omega) [g5,Pt.cells]) (by simp) (by simp) ?_
  rintro _ H2 nx2 M2 ⟨rfl,hn2,hm2,⟨d2,xd2,na2,nb2,hp2,hd2⟩,hM2⟩
  simp only [] at hn2
  simp only [puts_none,puts_some]
  refine .nil ?_
  refine hK11 _ _ ?_
  refine .q ?_ (by simp (disch:=first|exact zd|fail) [if_pos,g0,hi,List.length_take,Nat.min_eq_left,List.length_map]; rfl)
  have hB0 : addP (addP A ga) gb = ded (seqM L i ++ [ga] ++ [gb] ++ rowM L i 0):=by rw [rowM,List.append_nil,ded_snoc,ded_snoc,hA]
  refine .block ?_
  
  refine .loop (fun N s MM=>∃ k : Nat,∃ B : List GP,∃ did : Nat,N = i - k ∧ k ≤ i ∧ (B = ded (seqM L i ++ [ga] ++ [gb] ++ rowM L i k)) ∧ (MM m = some (memF B)) ∧ (did ≠ pid) ∧ (did ≠ mid) ∧ s.env 0 = .isl (L.map Sg.cells) ∧ s.env 4 = .ptr pid 0 0 ∧ s.env 5 = .fn 154 [.ptr mid 0 0,.ptr pid 0 0] ∧ s.env 19 = .isl (L.map Sg.cells) ∧ s.env 20 = .int .i64 (L.length : Int) ∧ s.env 21 = .int .i64 (i : Int) ∧ s.env 7 = .ip [.int .i64 s0.a.x,.int .i64 s0.a.y,.int .i64 s0.b.x,.int .i64 s0.b.y] ∧ s.env 38 = .isl (L.map Sg.cells |>.take i) ∧ s.env 39 = .int .i64 (i : Int) ∧ s.env 40 = .int .i64 (k : Int) ∧ s.heap mid = some (1,[[.raw (.map (some m))]]) ∧ mid < s.nx ∧ s.heap pid = some (1,[[.osl did 0 B.length]]) ∧ pid < s.nx ∧ s.heap did = some (12,B.map cellsG) ∧ did < s.nx ∧ s.nt = 77) (i) (by refine ⟨0,(addP (addP A ga) gb),d2,by omega,by omega,hB0,hM2,nb2,na2,?_,?_,?_,?_,?_,?_,?_,?_,?_,?_,?_,?_,?_,?_,?_,?_,rfl⟩ <;> first|(simp (disch:=omega) [g0,g4,g5,g19,g20,g21,hm2,hp2,hd2];done)|omega|(simp;done)|(simp;omega)) ?_
  clear g0 g4 g5 g19 g20 g21 hMM
  rintro N ⟨e,H,mm,nt⟩ MM ⟨k,B,did,rfl,hk,hB,hMM,n2,n3,g0,g4,g5,g19,g20,g21,g7,g38,g39,g40,Hm,xm,Hp,xp,Hd,xd,rfl⟩
  simp only [] at g0 g4 g5 g19 g20 g21 g7 g38 g39 g40 Hm xm Hp xp Hd xd
  refine .q ?_ (by simp (disch:=first|exact zd|fail) [g39,g40]; rfl)
  refine .sq fun K14 hK14=>?_
  refine .c (fun h41=>?_) (fun h41=>?_)
  ·try simp only[dc]at h41
   have hk' : k < i:=by omega
   have hkL : k < L.length:=by omega
   have hatk0:=gq_get hkL
   have gk:=z2 _ (gq_mem hkL)
   have hatk : (L.map Sg.cells)[k]? = some (Sg.cells (gq L k)):=by rw [List.getElem?_map,hatk0]; rfl
   have haek : ∀ h : k < (L.map Sg.cells).length,(L.map Sg.cells)[k] = Sg.cells (gq L k):=fun h=>by rw [List.getElem?_eq_getElem h] at hatk; simpa using hatk
   have hmt:=meetI_fc s0 (gq L k) gs gk
   have hok:=mtF_ok s0 (gq L k)
   rw [mtF_good gs gk] at hok
   have hone:=meet_one gs gk
   obtain ⟨M,hM⟩ : ∃ M,meetI s0 (gq L k) = M:=⟨_,rfl⟩
   rw [hM] at hmt hok hone
   have hBb:=dedr_b z1 hi' (Nat.le_of_lt hk') ga gb
   rw [← hB] at hBb
   refine .skip ?_
   refine hK14 _ _ ?_
   refine .sq fun K15 hK15=>?_
   refine .block ?_
   refine .q ?_ (by simp (disch:=first|exact zd|fail) [if_pos,g0,g4,g5,g19,g20,g21,g7,g38,g39,g40,Hm,Hp,Hd,hk',hatk,haek,List.getElem?_take,List.length_take,List.length_map]; rfl)
   refine .sq fun K17 hK17=>?_
   refine .up ?_
   refine .region ?_
   refine .kf 2 hmt hb156 ?_ (by simp (disch:=first|exact zd|fail) [List.take_succ_cons,List.take_zero,g0,g4,g5,g19,g20,g21,g7,g38,g39,g40,Hm,Hp,Hd]; rfl) (ha:=by simp (disch:=first|exact zd|fail) [idf_Wd',g0,g4,g5,g19,g20,g21,g7,g38,g39,g40,Hm,Hp,Hd])
   refine .e ?_ (by simp (disch:=first|exact zd|fail) [g0,g4,g5,g19,g20,g21,g7,g38,g39,g40,Hm,Hp,Hd]; rfl)
   refine hK17 _ _ ?_
   refine .q ?_
   refine .c (t:=M.1 == 1) (fun h52=>?_) (fun h52=>?_)
   ·try simp only[dc]at h52
    have hm1' : M.1 = 1:=by simpa using h52
    have hmk : (meetI (gq L i) (gq L k)).1 = 1:=by rw [← hs0,hM]; exact hm1'
    obtain ⟨gp,hgp⟩ : ∃ g,g = toG M.2.1:=⟨_,rfl⟩
    have vgp : gp.1 = M.2.1:=by rw [hgp]; exact toG_val hok.1 (hone hm1').1
    have hgm : toG (meetI (gq L i) (gq L k)).2.1 = gp:=by rw [← hs0,hM,hgp]
    refine .region ?_
    refine .k 2 ?_
    refine .e ?_ (by simp (disch:=first|exact zd|fail) [g0,g4,g5,g19,g20,g21,g7,g38,g39,g40,Hm,Hp,Hd]; rfl)
    refine .mcall (add_mc B gp m mid pid did _ _ _ (by simp (disch:=omega) [Hm]) (by simp (disch:=omega) [Hp]) (by simp (disch:=omega) [Hd]) (by first|omega|(simp;omega)) (by first|omega|(simp;omega)) (by first|omega|(simp;omega)) n1 n2 n3 hMM (by omega)) rfl rfl (by simp (disch:=omega) [g5]; rfl) hb154 (by simp (disch:=omega) [g5,Pt.cells,vgp]) (by simp) (by simp) ?_
    rintro _ H3 nx3 M3 ⟨rfl,hn3,hm3,⟨d3,xd3,na3,nb3,hp3,hd3⟩,hM3⟩
    simp only [] at hn3
    simp only [puts_none,puts_some]
    refine .nil ?_
    refine hK15 _ _ ?_
    refine .up ?_
    refine .r ?_ (by simp (disch:=first|exact zd|fail) [g40]; rfl)
    refine ⟨i - (k + 1),by omega,k + 1,(addP B gp),d3,rfl,by omega,by rw [rowM_yes hmk,← hB,hgm],hM3,nb3,na3,?_,?_,?_,?_,?_,?_,?_,?_,?_,?_,?_,?_,?_,?_,?_,?_,rfl⟩ <;> first|(simp (disch:=omega) [g0,g4,g5,g19,g20,g21,g7,g38,g39,g40,Hm,Hp,Hd,hm3,hp3,hd3];done)|omega|(simp;done)|(simp;omega)
   ·try simp only[dc]at h52
    have hmk : ¬ (meetI (gq L i) (gq L k)).1 = 1:=by rw [← hs0,hM]; simpa using h52
    refine .skip ?_
    refine hK15 _ _ ?_
    refine .up ?_
    refine .r ?_ (by simp (disch:=first|exact zd|fail) [g40]; rfl)
    refine ⟨i - (k + 1),by omega,k + 1,B,did,rfl,by omega,by rw [rowM_no hmk]; exact hB,hMM,n2,n3,?_,?_,?_,?_,?_,?_,?_,?_,?_,?_,?_,?_,?_,?_,?_,?_,rfl⟩ <;> first|(simp (disch:=omega) [g0,g4,g5,g19,g20,g21,g7,g38,g39,g40,Hm,Hp,Hd];done)|omega|(simp;done)|(simp;omega)
  ·try simp only[dc]at h41
   have hki : k = i:=by omega
   have hB' : B = ded (seqM L (i + 1)):=by rw [hB,hki,← seqM_step,← hs0,← hga,← hgb]
   have hMM1:=hMM
   refine .exit ?_
   refine hK8 _ _ ?_
   refine .up ?_
   refine .r ?_ (by simp (disch:=first|exact zd|fail) [g21]; rfl)
   refine ⟨L.length - (i + 1),by omega,i + 1,B,mid,pid,did,rfl,by omega,hB',hMM1,n1,n2,n3,?_,?_,?_,?_,?_,?_,?_,?_,?_,?_,?_,?_,rfl⟩ <;> first|(simp (disch:=omega) [g0,g4,g5,g19,g20,g21,Hm,Hp,Hd];done)|omega|(simp;done)|(simp;omega)
 ·try simp only[dc]at h22
  have hin : i = L.length:=by omega
  subst hin
  have hAb:=ded_b z1 (Nat.le_refl _)
  rw [← hA] at hAb
  have hAn : (hitP L).length = A.length:=by rw [hitP_len,hA]
  have hsr:=srt_hits L
  rw [← hA] at hsr
  refine .exit ?_
  refine hK4 _ _ ?_
  refine .sq fun K19 hK19=>?_
  refine .up ?_
  refine .region ?_
  refine .k 1 ?_ (by simp (disch:=first|exact zd|fail) [List.take_succ_cons,List.take_zero,g4,Hp,Hd]; rfl)
  refine .a (sortPt_ac (fun g : GP=>g.1) cmH 158 [] ⟨hb158,cmpH_fc⟩ ltH_swo A.toArray A.length did _ _ (by simp) Hd (by first|omega|(simp;done)|(simp;omega)) (by omega)) hb157 ?_ (ha:=by simp (disch:=first|exact zd|fail) [idf_Wd',g4,Hp,Hd])
  rintro _ _ nx3 ⟨rfl,rfl,hn3⟩
  simp only [] at hn3
  rw [hsr]
  refine .nil ?_
  refine hK19 _ _ ?_
  refine .q ?_ (by simp (disch:=first|exact zd|fail) [g0]; rfl)
  refine .sq fun K21 hK21=>?_
  refine .q ?_ (by simp (disch:=first|exact zd|fail) [g4,Hp,n1,n2,n3]; rfl)
  have hfz : fz did ((hitP L).map cellsG) (.osl did 0 A.length) = .isl ((hitP L).map cellsG):=fz_fill cellsG (hitP L) hAn.symm
  refine MWP.frz1 61 did 12 ((hitP L).map cellsG) (.isl ((hitP L).map cellsG)) (by simp (disch:=omega)) (by simp (disch:=omega) [hfz]) ?_
  refine .block ?_
  
  refine .loop (fun N s MM=>∃ j : Nat,∃ C : List (List AV),∃ io : Nat,N = (hitP L).length - j ∧ j ≤ (hitP L).length ∧ (C = ((hitP L).take j).map (hitC L)) ∧ s.env 0 = .isl (L.map Sg.cells) ∧ s.env 13 = .osl io 0 j ∧ s.env 61 = .isl ((hitP L).map cellsG) ∧ s.env 62 = .int .i64 ((hitP L).length : Int) ∧ s.env 63 = .int .i64 (j : Int) ∧ s.heap io = some (13,C) ∧ io < s.nx ∧ s.nt = 77) ((hitP L).length) (by refine ⟨0,[],nx3,by omega,by omega,rfl,?_,?_,?_,?_,?_,?_,?_,rfl⟩ <;> first|(simp (disch:=omega) [g0];done)|omega|(simp;done)|(simp;omega)) ?_
  clear g0 g4 g5 g19 g20 g21 hMM Hm Hp Hd
  rintro N ⟨e,H,mm,nt⟩ MM ⟨j,C,io,rfl,hj,hC,g0,g13,g61,g62,g63,Ho,xo,rfl⟩
  simp only [] at g0 g13 g61 g62 g63 Ho xo
  refine .q ?_ (by simp (disch:=first|exact zd|fail) [g62,g63]; rfl)
  refine .sq fun K24 hK24=>?_
  refine .c (fun h64=>?_) (fun h64=>?_)
  ·try simp only[dc]at h64
   have hj' : j < (hitP L).length:=by omega
   obtain ⟨g,hg⟩ : ∃ g,(hitP L)[j]? = some g:=⟨_,List.getElem?_eq_getElem hj'⟩
   have hatj : ((hitP L).map cellsG)[j]? = some (cellsG g):=by rw [List.getElem?_map,hg]; rfl
   have haej : ∀ h : j < ((hitP L).map cellsG).length,((hitP L).map cellsG)[j] = cellsG g:=fun h=>by rw [List.getElem?_eq_getElem h] at hatj; simpa using hatj
   have hCl : C.length = j:=by rw [hC,List.length_map,List.length_take]; omega
   have hC' : C ++ [hitC L g] = ((hitP L).take (j + 1)).map (hitC L):=by rw [hC,List.take_add_one,hg]; simp
   have hc1 : (C.length + 1) * 120 ≤ 140737488355328:=by omega
   have hc2 : C.length ≤ 9223372036854775806:=by omega
   have htk : List.take j C = C:=List.take_of_length_le (Nat.le_of_eq hCl)
   have hap : hitC L g = Pt.cells g.1 ++ [Wd .i64 (onL L g.1)]:=rfl
   refine .skip ?_
   refine hK24 _ _ ?_
   refine .sq fun K25 hK25=>?_
   refine .block ?_
   refine .q ?_ (by simp (disch:=first|exact zd|fail) [if_pos,g0,g13,g61,g62,g63,Ho,hatj,haej,hj',List.length_map,cellsG]; rfl)
   refine .up ?_
   refine AWP.drawT 7 Tryz.checked.mixed (by kernel_rfl) (by kernel_rfl) ?_
   simp only [List.take_succ_cons,List.take_zero,List.drop_succ_cons,List.drop_zero]
   refine .k 4 (fun fs27 hfs27=>?_) (by simp (disch:=first|exact zd|fail) [List.take_succ_cons,List.take_zero,g0,g13,g61,g62,g63,Ho,hc1,hc2,hCl,htk,hap]; rfl)
   refine .f (hitAt_fc L g.1 g.2.1 (by omega) z2) hb160 ?_ (ha:=by simp (disch:=first|exact zd|fail) [idf_Wd',g0,g13,g61,g62,g63,Ho,hc1,hc2,hCl,htk,hap])
   refine .k 2 (fun fs28 hfs28=>?_) (by simp (disch:=first|exact zd|fail) [List.take_succ_cons,List.take_zero,g0,g13,g61,g62,g63,Ho,hc1,hc2,hCl,htk,hap]; rfl)
   simp only [DP]
   refine AOPS.opapp (by simp (disch:=first|exact zd|fail) [if_pos,wd_append,wd_take,wd_drop,List.nil_append,g0,g13,g61,g62,g63,Ho,hc1,hc2,hCl,htk,hap]; first | rfl | exact ⟨rfl,rfl⟩ | exact ⟨rfl,rfl,rfl⟩) (by simp) (by simp) ?_
   simp only [puts_some,hdrop]
   refine .e ?_ (by simp (disch:=first|exact zd|fail) [g0,g13,g61,g62,g63,Ho,hc1,hc2,hCl,htk,hap]; rfl)
   refine hK25 _ _ ?_
   refine .up ?_
   refine .r ?_ (by simp (disch:=first|exact zd|fail) [g63]; rfl)
   refine ⟨(hitP L).length - (j + 1),by omega,j + 1,(C ++ [hitC L g]),(mm + 1 + 7),rfl,by omega,hC',?_,?_,?_,?_,?_,?_,?_,rfl⟩ <;> first|(simp (disch:=omega) [g0,g13,g61,g62,g63,Ho,hCl,hap,htk,Pt.cells];done)|omega|(simp;done)|(simp;omega)
  ·try simp only[dc]at h64
   have hjn : j = (hitP L).length:=by omega
   subst hjn
   have hCR : C = hitR L:=by rw [hC,List.take_length]; rfl
   have hCl : C.length = (hitP L).length:=by rw [hCR]; exact List.length_map _
   subst hCR
   refine .exit ?_
   refine hK21 _ _ ?_
   refine .q ?_ (by simp (disch:=first|exact zd|fail) [g13]; rfl)
   refine .ret ?_
   exact hK _ _ _ _ _ trivial (((Fin.mk (r:=.osl io 0 (hitP L).length) (by simp (disch:=omega) [aRes,aResL,aRes1]; try rfl)).freeze (id:=io) (z:=13) (es:=hitR L) (by simp (disch:=omega) [Ho])).cast (fz_fill (hitC L) (hitP L) rfl))
end

end Go.Proofs.YtjbbbkfdcegfmaaGreat

/- Walks: hits of the reference: points put in order. -/
namespace Go.Proofs.YtjbbbkfdcegfmaaGreat
open Go Go.RowKit
set_option linter.unusedSimpArgs false
set_option linter.unusedVariables false
set_option maxRecDepth 100000
attribute [local simp] szT2 byT2 agT2 unT2 zoT2 szT3 byT3 agT3 unT3 zoT3 szT27 byT27 agT27 elT27 unT27 zoT27 szT76 byT76 agT76 elT76 unT76 zoT76 szT83 byT83 agT83 flT83 fdT83_0 fdT83_1 zoT83 szT85 byT85 agT85 flT85 fdT85_0 fdT85_1 zoT85 szT105 byT105 agT105 flT105 fdT105_0 fdT105_1 zoT105 szT107 byT107 agT107 flT107 fdT107_0 fdT107_1 fdT107_2 zoT107 srT27 srT76

theorem l4V_one {u v : Sg} (gu : u.good = true) (gv : v.good = true) (h : (meetI u v).1 = 1) : l4V u v = .tup [.int .i64 1,l3A (meetI u v).2.1.x.v (meetI u v).2.1.y.v (meetI u v).2.1.w.v,z3]:=by
  have hg:=(meet_one gu gv h).1
  rw [meet_eq gu gv] at h hg ⊢
  unfold l4V
  unfold meetS linP at h hg ⊢
  by_cases h0 : crs u.a u.b v.a = 0 ∧ crs u.a u.b v.b = 0
  · rw [if_pos h0] at h hg ⊢
    rw [if_pos h0]
    split at h
    · simp at h
    · rename_i h3
      split at h
      · rename_i h4
        rw [if_neg h3,if_pos h4,if_neg h3,if_pos h4]
        obtain ⟨v1,v2,v3⟩:=ptS_v (low_good gu gv : (lowS u v).good = true)
        rw [v1,v2,v3]
      · simp at h
  · rw [if_neg h0] at h hg ⊢
    rw [if_neg h0]
    by_cases hw : noWay u v = true
    · rw [if_pos hw] at h; simp at h
    · rw [if_neg hw] at h hg ⊢
      rw [if_neg hw]
      have e : mkP (wayX2 u v) (wayY2 u v) (denS u v) = pt3 (nX u v) (nY u v) (nW u v):=by unfold mkP; rw [if_neg (den_ne gu gv h0 hw)]; rfl
      simp only [e] at hg ⊢
      obtain ⟨v1,v2,v3⟩:=pt3_val hg
      rw [v1,v2,v3]
theorem l3CmpG (a p : GP) : FC Tryz.prog 177 [l3A a.1.x.v a.1.y.v a.1.w.v,l3A p.1.x.v p.1.y.v p.1.w.v] (.int .i64 (cmH a p)):=l3Cmp_fc a.1 p.1 a.2.1 p.2.1
theorem l3SpotG {p : Sp} (gp : p.good = true) {g : GP} (hg : g.1 = ptS p) : FC Tryz.prog 151 [.agg [.int .i64 p.x,.int .i64 p.y]] (l3A g.1.x.v g.1.y.v g.1.w.v):=by
  obtain ⟨v1,v2,v3⟩:=ptS_v gp
  have pb:=Sp.b gp
  rw [hg,v1,v2,v3]
  exact l3Spot_fc p.x p.y (by omega) (by omega) (by omega) (by omega)
theorem l4OnG {s : Sg} (gs : s.good = true) (g : GP) : FC Tryz.prog 100 [.agg [.int .i64 s.a.x,.int .i64 s.a.y,.int .i64 s.b.x,.int .i64 s.b.y],l3A g.1.x.v g.1.y.v g.1.w.v] (.bool (onF s g.1)):=by
  have h:=l4On_fc s.a s.b (good_a gs) (good_b gs) g.1 g.2.1
  rw [bt_on gs] at h; exact h
theorem slc_row {P : Program} {s : St} {t el : TypeId} {z : Nat} {es : List (List AV)} {lo hi : Option AV} {a b : Nat} (he : elOf P t = some el) (hz : szOf P el = some z) (hes : ∀ c ∈ es,c.length = z) (h1 : bnd lo 0 = some a) (h2 : bnd hi es.length = some b) (h3 : a ≤ b) (h4 : b ≤ es.length) : aSlc P s t (.isl es) lo hi = some (.isl ((es.take b).drop a)):=by
  simp only [aSlc,he,h1,h2,hz]
  rw [if_pos ⟨h3,h4,rfl,fun c hc=>by rw [hes c hc]⟩]
theorem cellS_one (g : GP) : (cellS g).length = 6 ∧ ∀ x ∈ cellS g,avOne x = true:=⟨rfl,by intro x hx; simp only [cellS,l3C,List.mem_cons,List.not_mem_nil,or_false] at hx; rcases hx with rfl | rfl | rfl | rfl | rfl | rfl <;> rfl⟩
theorem rowS_one (A : List GP) : ∀ c ∈ A.map cellS,c.length = 6 ∧ ∀ x ∈ c,avOne x = true:=fun c hc=>by
  obtain ⟨g,_,rfl⟩:=List.mem_map.1 hc; exact cellS_one g
theorem idf_rowS (A : List GP) : idf (.isl (A.map cellS)):=by
  simp only [idf,idfLL_iff,List.mem_map]
  rintro x ⟨g,_,rfl⟩
  simp [cellS,l3C,idfL,idf,idf_Wd']
theorem rowS_yes {L : List Sg} {i k : Nat} (h : (meetI (gq L i) (gq L k)).1 = 1) (A : List GP) : insS (A ++ rowM L i (k + 1)) = insU (insS (A ++ rowM L i k)) (toG (meetI (gq L i) (gq L k)).2.1):=by
  rw [← insS_snoc,rowM,if_pos h,List.append_assoc]
theorem rowS_no {L : List Sg} {i k : Nat} (h : ¬ (meetI (gq L i) (gq L k)).1 = 1) (A : List GP) : insS (A ++ rowM L i (k + 1)) = insS (A ++ rowM L i k):=by
  rw [rowM,if_neg h,List.append_nil]
theorem seqS_step (L : List Sg) (i : Nat) : insS (seqM L i ++ [toG (ptS (gq L i).a)] ++ [toG (ptS (gq L i).b)] ++ rowM L i i) = insS (seqM L (i + 1)):=rfl
theorem ins_b {L : List Sg} (hl : L.length ≤ 40) {n : Nat} (hn : n ≤ L.length) : (insS (seqM L n)).length ≤ 1680:=by
  have h1:=insS_len (seqM L n)
  have h2:=seqM_len L n
  have h3 : n * (n + 2) ≤ 40 * 42:=Nat.mul_le_mul (by omega) (by omega)
  omega
theorem inr_b {L : List Sg} (hl : L.length ≤ 40) {n k : Nat} (hn : n < L.length) (hk : k ≤ n) (a b : GP) : (insS (seqM L n ++ [a] ++ [b] ++ rowM L n k)).length ≤ 1722:=by
  have h1:=insS_len (seqM L n ++ [a] ++ [b] ++ rowM L n k)
  have h2:=seqM_len L n
  have h4:=rowM_len L n k
  have h3 : n * (n + 2) ≤ 40 * 42:=Nat.mul_le_mul (by omega) (by omega)
  simp only [List.length_append,List.length_cons,List.length_nil] at h1
  omega
theorem idf_l3A (x y w : Int) : idf (l3A x y w):=by simp [l3A,l3C,idf,idfL,idf_Wd']

section
attribute [local simp] idf_numS cells_numS numS_fold idf_numI cells_numI numI_fold l3A l3C
set_option maxHeartbeats 8000000 in
theorem l8Put_fc (A : List GP) (p : GP) (hl : A.length ≤ 1048576) : FC Tryz.prog 150 [.isl (A.map cellS),l3A p.1.x.v p.1.y.v p.1.w.v] (.isl ((insU A p).map cellS)):=by
 refine .b Tryz.func150 50 (fun nx K hK=>?_) (hi:=⟨idf_rowS A,idf_l3A _ _ _,trivial⟩) (hr:=idf_rowS _)
 refine .q ?_
 refine AWP.frz1 3 nx 6 [(l3C p.1.x.v p.1.y.v p.1.w.v)] (.ip (l3C p.1.x.v p.1.y.v p.1.w.v)) (by simp (disch:=omega) [l3C]) (by simp (disch:=omega) [fz,l3C]) ?_
 refine .q ?_
 refine .sq fun K3 hK3=>?_
 refine .block ?_
 
 refine .loop (fun N s=>∃ j : Nat,N = A.length - j ∧ j ≤ A.length ∧ (∀ q,q < j → ∃ y,A[q]? = some y ∧ ltH y p = true) ∧ s.env 0 = .isl (A.map cellS) ∧ s.env 3 = .ip (l3C p.1.x.v p.1.y.v p.1.w.v) ∧ s.env 5 = .int .i64 (j : Int) ∧ s.nt = 50) (A.length) (by refine ⟨0,by omega,by omega,fun q h=>by omega,?_,?_,?_,rfl⟩ <;> first|(simp (disch:=omega);done)|omega|(simp;done)|(simp;omega)) ?_
 rintro N ⟨e,H,mm,nt⟩ ⟨j,rfl,hj,hq,g0,g3,g5,rfl⟩
 simp only [] at g0 g3 g5
 refine .sq fun K4 hK4=>?_
 refine .sq fun K5 hK5=>?_
 by_cases hjm : j < A.length
 ·have hge0:=getD_at (l:=A) (x0:=default) hjm
  obtain ⟨a,ha⟩ : ∃ a,a = A.getD j default:=⟨_,rfl⟩
  rw [← ha] at hge0
  have hge:=hge0
  have hat : (A.map cellS)[j]? = some (cellS a):=by rw [List.getElem?_map,hge]; rfl
  have hae : ∀ h : j < (A.map cellS).length,(A.map cellS)[j] = cellS a:=fun h=>by rw [List.getElem?_eq_getElem h] at hat; simpa using hat
  simp only [cellS,l3C] at hat hae
  have hcm:=l3CmpG a p
  refine .d 13 ?_
  refine .k 10 (fun fs6 hfs6=>?_) (by simp (disch:=first|exact zd|fail) [List.take_succ_cons,List.take_zero,if_pos,g0,g3,g5,hat,hae,hjm,List.length_map]; rfl)
  refine .f hcm hb177 ?_ (ha:=by simp (disch:=first|exact zd|fail) [idf_Wd',if_pos,g0,g3,g5,hat,hae,hjm,List.length_map])
  refine .k 2 (fun fs7 hfs7=>?_) (by simp (disch:=first|exact zd|fail) [List.take_succ_cons,List.take_zero,if_pos,g0,g3,g5,hat,hae,hjm,List.length_map]; rfl)
  refine .r 13 (by simp only[ln,hfs6,hfs7];omega) ?_ (by simp (disch:=first|exact zd|fail) [if_pos,g0,g3,g5,hat,hae,hjm,List.length_map]; rfl)
  refine hK5 _ ?_
  refine .c (t:=decide (cmH a p < 0)) (fun h19=>?_) (fun h19=>?_)
  ·try simp only[dc]at h19
   have hlt:=ltH_iff.2 h19
   refine .skip ?_
   refine hK4 _ ?_
   refine .block ?_
   refine .r ?_ (by simp (disch:=first|exact zd|fail) [g5]; rfl)
   refine ⟨A.length - (j + 1),by omega,j + 1,rfl,by omega,fun q hq'=>by
     rcases Nat.lt_or_ge q j with h | h
     · exact hq q h
     · rw [show q = j by omega]; exact ⟨_,hge,hlt⟩,?_,?_,?_,rfl⟩ <;> first|(simp (disch:=omega) [g0,g3,g5];done)|omega|(simp;done)|(simp;omega)
  ·try simp only[dc]at h19
   have hins:=insK_at hq hge (ltH_not.2 (by omega))
   refine .exit ?_
   refine hK3 _ ?_
   refine .sq fun K8 hK8=>?_
   refine .sq fun K9 hK9=>?_
   by_cases hz0 : cmH a p = 0
   ·have d0 : (cmH a p == 0) = true:=by simpa using hz0
    refine .d 13 ?_
    refine .k 10 (fun fs10 hfs10=>?_) (by simp (disch:=first|exact zd|fail) [List.take_succ_cons,List.take_zero,if_pos,g0,g3,g5,hat,hae,hjm,List.length_map,d0]; rfl)
    refine .f hcm hb177 ?_ (ha:=by simp (disch:=first|exact zd|fail) [idf_Wd',if_pos,g0,g3,g5,hat,hae,hjm,List.length_map,d0])
    refine .k 2 (fun fs11 hfs11=>?_) (by simp (disch:=first|exact zd|fail) [List.take_succ_cons,List.take_zero,if_pos,g0,g3,g5,hat,hae,hjm,List.length_map,d0]; rfl)
    refine .r 13 (by simp only[ln,hfs10,hfs11];omega) ?_ (by simp (disch:=first|exact zd|fail) [if_pos,g0,g3,g5,hat,hae,hjm,List.length_map,d0]; rfl)
    refine hK9 _ ?_
    refine .c (t:=true) (fun h34=>?_) (fun h34=>?_)
    ·try simp only[dc]at h34
     refine .q ?_ (by simp (disch:=first|exact zd|fail) [g0]; rfl)
     refine .ret ?_
     exact hK _ _ _ _ trivial ((Fin.mk (r:=.isl (A.map cellS)) (by simp (disch:=omega) [aRes,aResL,aRes1]; try rfl)).cast (by rw [insU_eq hins hjm (by rw [← ha]; exact hz0)]))
    ·simp at h34
   ·have d0 : (cmH a p == 0) = false:=by simpa using hz0
    have hnz : ¬ (j < A.length ∧ cmH (A.getD j default) p = 0):=fun h=>hz0 (by rw [ha]; exact h.2)
    refine .d 13 ?_
    refine .k 10 (fun fs13 hfs13=>?_) (by simp (disch:=first|exact zd|fail) [List.take_succ_cons,List.take_zero,if_pos,g0,g3,g5,hat,hae,hjm,List.length_map,d0]; rfl)
    refine .f hcm hb177 ?_ (ha:=by simp (disch:=first|exact zd|fail) [idf_Wd',if_pos,g0,g3,g5,hat,hae,hjm,List.length_map,d0])
    refine .k 2 (fun fs14 hfs14=>?_) (by simp (disch:=first|exact zd|fail) [List.take_succ_cons,List.take_zero,if_pos,g0,g3,g5,hat,hae,hjm,List.length_map,d0]; rfl)
    refine .r 13 (by simp only[ln,hfs13,hfs14];omega) ?_ (by simp (disch:=first|exact zd|fail) [if_pos,g0,g3,g5,hat,hae,hjm,List.length_map,d0]; rfl)
    refine hK9 _ ?_
    refine .c (t:=false) (fun h34=>?_) (fun h34=>?_)
    ·simp at h34
    ·try simp only[dc]at h34
     have hfin:=insU_ne hins hnz
     have hjl : j ≤ A.length:=by omega
     have hlen : A.length + 1 = (insU A p).length:=by
       have h1:=congrArg List.length hfin
       simp only [List.length_append,List.length_take,List.length_drop,List.length_map,List.length_cons,List.length_nil] at h1
       omega
     have hpl:=rowS_one A
     have hpt : ∀ c ∈ List.take j (A.map cellS),c.length = 6 ∧ ∀ x ∈ c,avOne x = true:=fun c hc=>hpl c (List.mem_of_mem_take hc)
     have hpd : ∀ c ∈ List.drop j (A.map cellS),c.length = 6 ∧ ∀ x ∈ c,avOne x = true:=fun c hc=>hpl c (List.mem_of_mem_drop hc)
     have hb1 : (List.take j (A.map cellS)).length = j:=by rw [List.length_take,List.length_map]; omega
     have hb2 : (List.drop j (A.map cellS)).length = A.length - j:=by rw [List.length_drop,List.length_map]
     have hb3 : List.take (A.length - j) (List.drop j (A.map cellS)) = List.drop j (A.map cellS):=List.take_of_length_le (by omega)
     have hb4 : List.take j (List.take j (A.map cellS)) = List.take j (A.map cellS):=List.take_of_length_le (by omega)
     have hjk2 : j + (A.length - j + 1) = A.length + 1:=by omega
     have hjk : j + 1 + (A.length - j) = A.length + 1:=by omega
     have hs1 : ∀ s : St,aSlc Tryz.prog s 76 (.isl (A.map cellS)) none (some (.int .i64 (j : Int))) = some (.isl (List.take j (A.map cellS))):=fun s=>slc_row (a:=0) (b:=j) elT76 szT107 (fun c hc=>(hpl c hc).1) rfl (by simp [bnd]) (Nat.zero_le _) (by rw [List.length_map]; exact hjl)
     have hs2 : ∀ s : St,aSlc Tryz.prog s 76 (.isl (A.map cellS)) (some (.int .i64 (j : Int))) none = some (.isl (List.drop j (A.map cellS))):=fun s=>by
       have h:=slc_row (P:=Tryz.prog) (s:=s) (t:=76) (es:=A.map cellS) (lo:=some (.int .i64 (j : Int))) (hi:=none) (a:=j) (b:=(A.map cellS).length) elT76 szT107 (fun c hc=>(hpl c hc).1) (by simp [bnd]) rfl (by rw [List.length_map]; exact hjl) (Nat.le_refl _)
       rw [List.take_length] at h; exact h
     simp only [cellS,l3C] at hfin
     have hfin2:=hfin
     rw [List.append_assoc] at hfin2
     simp only [List.cons_append,List.nil_append] at hfin2
     have hb5 : ∀ r : List AV,List.take (j + 1) (List.take j (A.map cellS) ++ [r]) = List.take j (A.map cellS) ++ [r]:=fun r=>List.take_of_length_le (by rw [List.length_append,hb1]; simp)
     refine .skip ?_
     refine hK8 _ ?_
     refine .sq fun K15 hK15=>?_
     refine .region ?_
     refine .k 4 ?_ (by simp (disch:=first|exact zd|fail) [List.take_succ_cons,List.take_zero,if_pos,g0,g3,g5,hjl,hb1,hb4,hs1,List.length_map,List.drop_zero]; rfl)
     refine AOPS.opapp (by simp (disch:=first|exact zd|fail) [if_pos,wd_append,wd_take,wd_drop,List.nil_append,hb1,hb4,hjl,hpt,g0,g3,g5]; first | rfl | exact ⟨rfl,rfl⟩ | exact ⟨rfl,rfl,rfl⟩) (by simp) (by simp) ?_
     simp only [puts_some,hdrop]
     refine .e ?_ (by simp (disch:=first|exact zd|fail) [if_pos,g0,g3,g5,hjl,hb1,hb4,hs1,List.length_map,List.drop_zero]; rfl)
     refine hK15 _ ?_
     refine .sq fun K16 hK16=>?_
     refine .region ?_
     refine .k 3 ?_ (by simp (disch:=first|exact zd|fail) [List.take_succ_cons,List.take_zero,g0,g3,g5]; rfl)
     refine AOPS.opapp (by simp (disch:=first|exact zd|fail) [if_pos,wd_append,wd_take,wd_drop,List.nil_append,hb1,hb4,hjl,hb5,hpt]; first | rfl | exact ⟨rfl,rfl⟩ | exact ⟨rfl,rfl,rfl⟩) (by simp) (by simp) ?_
     simp only [puts_some,hdrop]
     refine .e ?_ (by simp (disch:=first|exact zd|fail) [g0,g3,g5]; rfl)
     refine hK16 _ ?_
     refine .sq fun K17 hK17=>?_
     refine .region ?_
     refine .k 4 ?_ (by simp (disch:=first|exact zd|fail) [List.take_succ_cons,List.take_zero,if_pos,g0,g3,g5,hjl,hb2,hb3,hs2,List.length_map]; rfl)
     refine AOPS.opapp (by simp (disch:=first|exact zd|fail) [if_pos,wd_append,wd_take,wd_drop,List.nil_append,hb1,hb2,hb3,hb5,hjl,hjk,hpd,hpt,g0,g3,g5]; first | rfl | exact ⟨rfl,rfl⟩ | exact ⟨rfl,rfl,rfl⟩) (by simp) (by simp) ?_
     simp only [puts_some,hdrop]
     refine .e ?_ (by simp (disch:=first|exact zd|fail) [if_pos,g0,g3,g5,hjl,hb2,hb3,hs2,List.length_map]; rfl)
     refine hK17 _ ?_
     refine .ret ?_
     exact hK _ _ _ _ trivial (((Fin.mk (r:=.osl (mm + 13 + 13 + 1 + 1 + 1 + 1) 0 (A.length + 1)) (by simp (disch:=omega) [aRes,aResL,aRes1,hjk,hjk2] <;> omega)).freeze (id:=(mm + 13 + 13 + 1 + 1 + 1 + 1)) (z:=6) (es:=(insU A p).map cellS) (by simp (disch:=omega) [hfin,hfin2])).cast (fz_fill cellS (insU A p) hlen))
 ·have hjn : j = A.length:=by omega
  have hins : insK ltH p A = j:=by rw [hjn]; exact insK_end (by rw [← hjn]; exact hq)
  have hnz : ¬ (j < A.length ∧ cmH (A.getD j default) p = 0):=fun h=>hjm h.1
  refine .df 13 ?_ (by simp (disch:=first|exact zd|fail) [if_pos,g0,g3,g5,hjm,List.length_map]; rfl)
  refine hK5 _ ?_
  refine .c (t:=false) (fun h19=>?_) (fun h19=>?_)
  ·simp at h19
  ·try simp only[dc]at h19
   refine .exit ?_
   refine hK3 _ ?_
   refine .sq fun K18 hK18=>?_
   refine .sq fun K19 hK19=>?_
   refine .df 13 ?_ (by simp (disch:=first|exact zd|fail) [if_pos,g0,g3,g5,hjm,List.length_map]; rfl)
   refine hK19 _ ?_
   refine .c (t:=false) (fun h34=>?_) (fun h34=>?_)
   ·simp at h34
   ·try simp only[dc]at h34
    have hfin:=insU_ne hins hnz
    have hjl : j ≤ A.length:=by omega
    have hlen : A.length + 1 = (insU A p).length:=by
      have h1:=congrArg List.length hfin
      simp only [List.length_append,List.length_take,List.length_drop,List.length_map,List.length_cons,List.length_nil] at h1
      omega
    have hpl:=rowS_one A
    have hpt : ∀ c ∈ List.take j (A.map cellS),c.length = 6 ∧ ∀ x ∈ c,avOne x = true:=fun c hc=>hpl c (List.mem_of_mem_take hc)
    have hpd : ∀ c ∈ List.drop j (A.map cellS),c.length = 6 ∧ ∀ x ∈ c,avOne x = true:=fun c hc=>hpl c (List.mem_of_mem_drop hc)
    have hb1 : (List.take j (A.map cellS)).length = j:=by rw [List.length_take,List.length_map]; omega
    have hb2 : (List.drop j (A.map cellS)).length = A.length - j:=by rw [List.length_drop,List.length_map]
    have hb3 : List.take (A.length - j) (List.drop j (A.map cellS)) = List.drop j (A.map cellS):=List.take_of_length_le (by omega)
    have hb4 : List.take j (List.take j (A.map cellS)) = List.take j (A.map cellS):=List.take_of_length_le (by omega)
    have hjk2 : j + (A.length - j + 1) = A.length + 1:=by omega
    have hjk : j + 1 + (A.length - j) = A.length + 1:=by omega
    have hs1 : ∀ s : St,aSlc Tryz.prog s 76 (.isl (A.map cellS)) none (some (.int .i64 (j : Int))) = some (.isl (List.take j (A.map cellS))):=fun s=>slc_row (a:=0) (b:=j) elT76 szT107 (fun c hc=>(hpl c hc).1) rfl (by simp [bnd]) (Nat.zero_le _) (by rw [List.length_map]; exact hjl)
    have hs2 : ∀ s : St,aSlc Tryz.prog s 76 (.isl (A.map cellS)) (some (.int .i64 (j : Int))) none = some (.isl (List.drop j (A.map cellS))):=fun s=>by
      have h:=slc_row (P:=Tryz.prog) (s:=s) (t:=76) (es:=A.map cellS) (lo:=some (.int .i64 (j : Int))) (hi:=none) (a:=j) (b:=(A.map cellS).length) elT76 szT107 (fun c hc=>(hpl c hc).1) (by simp [bnd]) rfl (by rw [List.length_map]; exact hjl) (Nat.le_refl _)
      rw [List.take_length] at h; exact h
    simp only [cellS,l3C] at hfin
    have hfin2:=hfin
    rw [List.append_assoc] at hfin2
    simp only [List.cons_append,List.nil_append] at hfin2
    have hb5 : ∀ r : List AV,List.take (j + 1) (List.take j (A.map cellS) ++ [r]) = List.take j (A.map cellS) ++ [r]:=fun r=>List.take_of_length_le (by rw [List.length_append,hb1]; simp)
    refine .skip ?_
    refine hK18 _ ?_
    refine .sq fun K20 hK20=>?_
    refine .region ?_
    refine .k 4 ?_ (by simp (disch:=first|exact zd|fail) [List.take_succ_cons,List.take_zero,if_pos,g0,g3,g5,hjl,hb1,hb4,hs1,List.length_map,List.drop_zero]; rfl)
    refine AOPS.opapp (by simp (disch:=first|exact zd|fail) [if_pos,wd_append,wd_take,wd_drop,List.nil_append,hb1,hb4,hjl,hpt,g0,g3,g5]; first | rfl | exact ⟨rfl,rfl⟩ | exact ⟨rfl,rfl,rfl⟩) (by simp) (by simp) ?_
    simp only [puts_some,hdrop]
    refine .e ?_ (by simp (disch:=first|exact zd|fail) [if_pos,g0,g3,g5,hjl,hb1,hb4,hs1,List.length_map,List.drop_zero]; rfl)
    refine hK20 _ ?_
    refine .sq fun K21 hK21=>?_
    refine .region ?_
    refine .k 3 ?_ (by simp (disch:=first|exact zd|fail) [List.take_succ_cons,List.take_zero,g0,g3,g5]; rfl)
    refine AOPS.opapp (by simp (disch:=first|exact zd|fail) [if_pos,wd_append,wd_take,wd_drop,List.nil_append,hb1,hb4,hjl,hb5,hpt]; first | rfl | exact ⟨rfl,rfl⟩ | exact ⟨rfl,rfl,rfl⟩) (by simp) (by simp) ?_
    simp only [puts_some,hdrop]
    refine .e ?_ (by simp (disch:=first|exact zd|fail) [g0,g3,g5]; rfl)
    refine hK21 _ ?_
    refine .sq fun K22 hK22=>?_
    refine .region ?_
    refine .k 4 ?_ (by simp (disch:=first|exact zd|fail) [List.take_succ_cons,List.take_zero,if_pos,g0,g3,g5,hjl,hb2,hb3,hs2,List.length_map]; rfl)
    refine AOPS.opapp (by simp (disch:=first|exact zd|fail) [if_pos,wd_append,wd_take,wd_drop,List.nil_append,hb1,hb2,hb3,hb5,hjl,hjk,hpd,hpt,g0,g3,g5]; first | rfl | exact ⟨rfl,rfl⟩ | exact ⟨rfl,rfl,rfl⟩) (by simp) (by simp) ?_
    simp only [puts_some,hdrop]
    refine .e ?_ (by simp (disch:=first|exact zd|fail) [if_pos,g0,g3,g5,hjl,hb2,hb3,hs2,List.length_map]; rfl)
    refine hK22 _ ?_
    refine .ret ?_
    exact hK _ _ _ _ trivial (((Fin.mk (r:=.osl (mm + 13 + 13 + 1 + 1 + 1 + 1) 0 (A.length + 1)) (by simp (disch:=omega) [aRes,aResL,aRes1,hjk,hjk2] <;> omega)).freeze (id:=(mm + 13 + 13 + 1 + 1 + 1 + 1)) (z:=6) (es:=(insU A p).map cellS) (by simp (disch:=omega) [hfin,hfin2])).cast (fz_fill cellS (insU A p) hlen))
end
section
attribute [local simp] idf_numS cells_numS numS_fold idf_numI cells_numI numI_fold Sp.av Sp.cells Sg.av Sg.cells l3A l3C
set_option maxHeartbeats 8000000 in
theorem l8Points_fc (L : List Sg) (z1 : L.length ≤ 40) (z2 : ∀ s ∈ L,s.good = true) : FC Tryz.prog 99 [.isl (L.map Sg.cells)] (.isl ((hitP L).map cellS)):=by
 refine .b Tryz.func99 56 (fun nx K hK=>?_) (hi:=by simp [idfL,idf,idfLL_iff,Sg.cells,Pt.av,Pt.cells]) (hr:=idf_rowS _)
 refine .q ?_
 refine .q ?_
 refine .sq fun K3 hK3=>?_
 refine AWP.frz1 3 nx 6 [] (.isl []) (by simp (disch:=omega)) (by simp (disch:=omega) [fz]) ?_
 refine .q ?_
 refine .block ?_
 
 refine .loop (fun N s=>∃ i : Nat,∃ A : List GP,N = L.length - i ∧ i ≤ L.length ∧ (A = insS (seqM L i)) ∧ s.env 0 = .isl (L.map Sg.cells) ∧ s.env 3 = .isl (A.map cellS) ∧ s.env 4 = .int .i64 (i : Int) ∧ s.nt = 56) (L.length) (by refine ⟨0,[],by omega,by omega,rfl,?_,?_,?_,rfl⟩ <;> first|(simp (disch:=omega);done)|omega|(simp;done)|(simp;omega)) ?_
 rintro N ⟨e,H,mm,nt⟩ ⟨i,A,rfl,hi,hA,g0,g3,g4,rfl⟩
 simp only [] at g0 g3 g4
 refine .sq fun K5 hK5=>?_
 refine .q ?_ (by simp (disch:=first|exact zd|fail) [g0,g4,List.length_map]; rfl)
 refine .c (fun h13=>?_) (fun h13=>?_)
 ·try simp only[dc]at h13
  have hi' : i < L.length:=by omega
  have hat:=gq_get hi'
  obtain ⟨s0,hs0⟩ : ∃ s0,s0 = gq L i:=⟨_,rfl⟩
  have gs:=z2 _ (gq_mem hi')
  rw [← hs0] at gs
  have hat2 : (L.map Sg.cells)[i]? = some (Sg.cells s0):=by rw [List.getElem?_map,hat,hs0]; rfl
  have hae2 : ∀ h : i < (L.map Sg.cells).length,(L.map Sg.cells)[i] = Sg.cells s0:=fun h=>by rw [List.getElem?_eq_getElem h] at hat2; simpa using hat2
  have hAb:=ins_b z1 (Nat.le_of_lt hi')
  rw [← hA] at hAb
  obtain ⟨ga,hga⟩ : ∃ g,g = toG (ptS s0.a):=⟨_,rfl⟩
  have vga : ga.1 = ptS s0.a:=by rw [hga]; exact toG_val (pt3_ok _ _ _) (ptS_gd (good_a gs))
  have oga:=l3SpotG (good_a gs) vga
  obtain ⟨gb,hgb⟩ : ∃ g,g = toG (ptS s0.b):=⟨_,rfl⟩
  have vgb : gb.1 = ptS s0.b:=by rw [hgb]; exact toG_val (pt3_ok _ _ _) (ptS_gd (good_b gs))
  have ogb:=l3SpotG (good_b gs) vgb
  have hA1:=insU_len A ga
  refine .skip ?_
  refine hK5 _ ?_
  refine .sq fun K7 hK7=>?_
  refine .block ?_
  refine .sq fun K8 hK8=>?_
  refine .region ?_
  refine .kf 6 oga hb151 ?_ (by simp (disch:=first|exact zd|fail) [List.take_succ_cons,List.take_zero,if_pos,g0,g3,g4,hat2,hae2,hi',List.length_map]; rfl) (ha:=by simp (disch:=first|exact zd|fail) [idf_Wd',if_pos,g0,g3,g4,hat2,hae2,hi',List.length_map])
  refine .f (l8Put_fc A ga (by omega)) hb150 ?_ (ha:=by simp (disch:=first|exact zd|fail) [idf_Wd',if_pos,g0,g3,g4,hat2,hae2,hi',List.length_map])
  refine .e ?_ (by simp (disch:=first|exact zd|fail) [if_pos,g0,g3,g4,hat2,hae2,hi',List.length_map]; rfl)
  refine hK8 _ ?_
  refine .sq fun K9 hK9=>?_
  refine .region ?_
  refine .kf 6 ogb hb151 ?_ (by simp (disch:=first|exact zd|fail) [List.take_succ_cons,List.take_zero,if_pos,g0,g3,g4,hat2,hae2,hi',List.length_map]; rfl) (ha:=by simp (disch:=first|exact zd|fail) [idf_Wd',if_pos,g0,g3,g4,hat2,hae2,hi',List.length_map])
  refine .f (l8Put_fc (insU A ga) gb (by omega)) hb150 ?_ (ha:=by simp (disch:=first|exact zd|fail) [idf_Wd',if_pos,g0,g3,g4,hat2,hae2,hi',List.length_map])
  refine .e ?_ (by simp (disch:=first|exact zd|fail) [if_pos,g0,g3,g4,hat2,hae2,hi',List.length_map]; rfl)
  refine hK9 _ ?_
  refine .q ?_
  have hB0 : insU (insU A ga) gb = insS (seqM L i ++ [ga] ++ [gb] ++ rowM L i 0):=by rw [rowM,List.append_nil,insS_snoc,insS_snoc,hA]
  refine .block ?_
  
  refine .loop (fun N s=>∃ k : Nat,∃ B : List GP,N = i - k ∧ k ≤ i ∧ (B = insS (seqM L i ++ [ga] ++ [gb] ++ rowM L i k)) ∧ s.env 0 = .isl (L.map Sg.cells) ∧ s.env 3 = .isl (B.map cellS) ∧ s.env 4 = .int .i64 (i : Int) ∧ s.env 5 = .int .i64 (k : Int) ∧ s.nt = 56) (i) (by refine ⟨0,(insU (insU A ga) gb),by omega,by omega,hB0,?_,?_,?_,?_,rfl⟩ <;> first|(simp (disch:=omega) [g0,g3,g4];done)|omega|(simp;done)|(simp;omega)) ?_
  clear g0 g3 g4
  rintro N ⟨e,H,mm,nt⟩ ⟨k,B,rfl,hk,hB,g0,g3,g4,g5,rfl⟩
  simp only [] at g0 g3 g4 g5
  refine .sq fun K11 hK11=>?_
  refine .q ?_ (by simp (disch:=first|exact zd|fail) [g4,g5]; rfl)
  refine .c (fun h34=>?_) (fun h34=>?_)
  ·try simp only[dc]at h34
   have hk' : k < i:=by omega
   have hkL : k < L.length:=by omega
   have hatk0:=gq_get hkL
   have gk:=z2 _ (gq_mem hkL)
   have hatk : (L.map Sg.cells)[k]? = some (Sg.cells (gq L k)):=by rw [List.getElem?_map,hatk0]; rfl
   have haek : ∀ h : k < (L.map Sg.cells).length,(L.map Sg.cells)[k] = Sg.cells (gq L k):=fun h=>by rw [List.getElem?_eq_getElem h] at hatk; simpa using hatk
   have hBb:=inr_b z1 hi' (Nat.le_of_lt hk') ga gb
   rw [← hB] at hBb
   refine .skip ?_
   refine hK11 _ ?_
   refine .sq fun K13 hK13=>?_
   refine .block ?_
   refine .sq fun K14 hK14=>?_
   by_cases hm1 : (meetI s0 (gq L k)).1 = 1
   ·have hmt:=l4Meet_fc s0 (gq L k) gs gk
    rw [l4V_one gs gk hm1] at hmt
    have hok:=mtF_ok s0 (gq L k)
    rw [mtF_good gs gk] at hok
    have hone:=meet_one gs gk hm1
    obtain ⟨gp,hgp⟩ : ∃ g,g = toG (meetI s0 (gq L k)).2.1:=⟨_,rfl⟩
    have vgp : gp.1 = (meetI s0 (gq L k)).2.1:=by rw [hgp]; exact toG_val hok.1 hone.1
    have hgm : toG (meetI (gq L i) (gq L k)).2.1 = gp:=by rw [← hs0,hgp]
    have hmk : (meetI (gq L i) (gq L k)).1 = 1:=by rw [← hs0]; exact hm1
    rw [← vgp] at hmt
    refine .old fun hold=>?_
    refine .d 15 ?_
    refine .k 8 (fun fs15 hfs15=>?_) (by simp (disch:=first|exact zd|fail) [List.take_succ_cons,List.take_zero,if_pos,g0,g3,g4,g5,hat2,hae2,hatk,haek,hi',hkL,z3,List.length_map]; rfl)
    refine .f hmt hb152 ?_ (ha:=by simp (disch:=first|exact zd|fail) [idf_Wd',if_pos,g0,g3,g4,g5,hat2,hae2,hatk,haek,hi',hkL,z3,List.length_map])
    refine .k 3 (fun fs16 hfs16=>?_) (by simp (disch:=first|exact zd|fail) [List.take_succ_cons,List.take_zero,if_pos,g0,g3,g4,g5,hat2,hae2,hatk,haek,hi',hkL,z3,List.length_map]; rfl)
    refine DP.runF1q (by simp (disch:=first|exact zd|fail) [if_pos,g0,g3,g4,g5,hat2,hae2,hatk,haek,hi',hkL,z3,List.length_map]; rfl) fun fq17 hfq17=>?_
    simp [qids,asksB,Op.operands,topId] at hfq17
    simp only [updo]
    refine .k 2 (fun fs18 hfs18=>?_) (by simp (disch:=first|exact zd|fail) [List.take_succ_cons,List.take_zero,if_pos,g0,g3,g4,g5,hat2,hae2,hatk,haek,hi',hkL,z3,List.length_map]; rfl)
    refine DQ.asg1 _ rfl rfl ?_
    simp only [updo]
    refine DQ.sto1 (m:=15) [12] _ (by simp (disch:=first|exact zd|fail) [if_pos,g0,g3,g4,g5,hat2,hae2,hatk,haek,hi',hkL,z3,List.length_map]; rfl) rfl (by simp only[ln,hfs15,hfs16,hfs18];omega) (by kernel_rfl) (by intro k f hk hex; simp only [List.mem_cons,List.not_mem_nil,or_false] at hex; rcases hex with rfl <;> (simp [List.getElem?_append,hfs15,hfs16,hfs18] at hk; subst hk; refine ⟨?_,by first | omega | (simp; done) | (simp; omega)⟩; simp [qids,asksB,Op.operands,Call.operands,topId,numS,numI,Wd,hfq17]; try omega)) ?_
    try simp only []
    refine DQ.sto1 (m:=15) [] _ (by simp (disch:=first|exact zd|fail) [if_pos,g0,g3,g4,g5,hat2,hae2,hatk,haek,hi',hkL,z3,List.length_map]; rfl) rfl (by simp only[ln,hfs15,hfs16,hfs18];omega) (by kernel_rfl) (by intro k f hk hex; simp only [List.not_mem_nil] at hex) ?_
    try simp only []
    refine hK14 _ ?_
    refine .q ?_
    refine .c (t:=true) (fun h51=>?_) (fun h51=>?_)
    ·try simp only[dc]at h51
     refine .region ?_
     refine .kf 2 (l8Put_fc B gp (by omega)) hb150 ?_ (by simp (disch:=first|exact zd|fail) [List.take_succ_cons,List.take_zero,g0,g3,g4,g5]; rfl) (ha:=by simp (disch:=first|exact zd|fail) [idf_Wd',g0,g3,g4,g5])
     refine .e ?_ (by simp (disch:=first|exact zd|fail) [g0,g3,g4,g5]; rfl)
     refine hK13 _ ?_
     refine .r ?_ (by simp (disch:=first|exact zd|fail) [g5]; rfl)
     refine ⟨i - (k + 1),by omega,k + 1,(insU B gp),rfl,by omega,by rw [rowS_yes hmk,← hB,hgm],?_,?_,?_,?_,rfl⟩ <;> first|(simp (disch:=omega) [g0,g3,g4,g5];done)|omega|(simp;done)|(simp;omega)
    ·simp at h51
   ·have hmt:=l4Meet_fc s0 (gq L k) gs gk
    obtain ⟨b1,b2,b3,c1,c2,c3,s1,s2,s3,t1,t2,t3,h4V,o1,o2,o3,o4,o5,o6⟩:=l4V_k gs gk
    rw [h4V] at hmt
    have hmk : ¬ (meetI (gq L i) (gq L k)).1 = 1:=by rw [← hs0]; exact hm1
    obtain ⟨v,hv⟩ : ∃ v,v = (meetI s0 (gq L k)).1:=⟨_,rfl⟩
    rw [← hv] at hmt hm1
    have hv1 : (v == 1) = false:=by simpa using hm1
    refine .old fun hold=>?_
    refine .d 15 ?_
    refine .k 8 (fun fs20 hfs20=>?_) (by simp (disch:=first|exact zd|fail) [List.take_succ_cons,List.take_zero,if_pos,g0,g3,g4,g5,hat2,hae2,hatk,haek,hi',hkL,o1,o2,o3,o4,o5,o6,List.length_map]; rfl)
    refine .f hmt hb152 ?_ (ha:=by simp (disch:=first|exact zd|fail) [idf_Wd',if_pos,g0,g3,g4,g5,hat2,hae2,hatk,haek,hi',hkL,o1,o2,o3,o4,o5,o6,List.length_map])
    refine .k 3 (fun fs21 hfs21=>?_) (by simp (disch:=first|exact zd|fail) [List.take_succ_cons,List.take_zero,if_pos,g0,g3,g4,g5,hat2,hae2,hatk,haek,hi',hkL,o1,o2,o3,o4,o5,o6,List.length_map]; rfl)
    refine DP.runF1q (by simp (disch:=first|exact zd|fail) [if_pos,g0,g3,g4,g5,hat2,hae2,hatk,haek,hi',hkL,o1,o2,o3,o4,o5,o6,List.length_map]; rfl) fun fq22 hfq22=>?_
    simp [qids,asksB,Op.operands,topId] at hfq22
    simp only [updo]
    refine .k 2 (fun fs23 hfs23=>?_) (by simp (disch:=first|exact zd|fail) [List.take_succ_cons,List.take_zero,if_pos,g0,g3,g4,g5,hat2,hae2,hatk,haek,hi',hkL,o1,o2,o3,o4,o5,o6,List.length_map]; rfl)
    refine DQ.asg1 _ rfl rfl ?_
    simp only [updo]
    refine DQ.sto1 (m:=15) [12] _ (by simp (disch:=first|exact zd|fail) [if_pos,g0,g3,g4,g5,hat2,hae2,hatk,haek,hi',hkL,o1,o2,o3,o4,o5,o6,List.length_map]; rfl) rfl (by simp only[ln,hfs20,hfs21,hfs23];omega) (by kernel_rfl) (by intro k f hk hex; simp only [List.mem_cons,List.not_mem_nil,or_false] at hex; rcases hex with rfl <;> (simp [List.getElem?_append,hfs20,hfs21,hfs23] at hk; subst hk; refine ⟨?_,by first | omega | (simp; done) | (simp; omega)⟩; simp [qids,asksB,Op.operands,Call.operands,topId,numS,numI,Wd,hfq22]; try omega)) ?_
    try simp only []
    refine DQ.sto1 (m:=15) [] _ (by simp (disch:=first|exact zd|fail) [if_pos,g0,g3,g4,g5,hat2,hae2,hatk,haek,hi',hkL,o1,o2,o3,o4,o5,o6,List.length_map]; rfl) rfl (by simp only[ln,hfs20,hfs21,hfs23];omega) (by kernel_rfl) (by intro k f hk hex; simp only [List.not_mem_nil] at hex) ?_
    try simp only []
    refine hK14 _ ?_
    refine .q ?_ (by simp (disch:=first|exact zd|fail) [hv1]; rfl)
    refine .c (t:=false) (fun h51=>?_) (fun h51=>?_)
    ·simp at h51
    ·try simp only[dc]at h51
     refine .skip ?_
     refine hK13 _ ?_
     refine .r ?_ (by simp (disch:=first|exact zd|fail) [g5]; rfl)
     refine ⟨i - (k + 1),by omega,k + 1,B,rfl,by omega,by rw [rowS_no hmk]; exact hB,?_,?_,?_,?_,rfl⟩ <;> first|(simp (disch:=omega) [g0,g3,g4,g5];done)|omega|(simp;done)|(simp;omega)
  ·try simp only[dc]at h34
   have hki : k = i:=by omega
   have hB' : B = insS (seqM L (i + 1)):=by rw [hB,hki,← seqS_step,← hs0,← hga,← hgb]
   refine .exit ?_
   refine hK7 _ ?_
   refine .r ?_ (by simp (disch:=first|exact zd|fail) [g4]; rfl)
   refine ⟨L.length - (i + 1),by omega,i + 1,B,rfl,by omega,hB',?_,?_,?_,rfl⟩ <;> first|(simp (disch:=omega) [g0,g3,g4];done)|omega|(simp;done)|(simp;omega)
 ·try simp only[dc]at h13
  have hin : i = L.length:=by omega
  subst hin
  have hAs : A = hitP L:=hA
  subst hAs
  refine .exit ?_
  refine hK3 _ ?_
  refine .q ?_ (by simp (disch:=first|exact zd|fail) [g3]; rfl)
  refine .ret ?_
  exact hK _ _ _ _ trivial (Fin.m)
end

end Go.Proofs.YtjbbbkfdcegfmaaGreat

/- Walks: the hits of right segments, as blocks of one's own. -/
namespace Go.Proofs.YtjbbbkfdcegfmaaGreat
open Go Go.RowKit
set_option linter.unusedSimpArgs false
set_option linter.unusedVariables false
set_option maxRecDepth 100000
attribute [local simp] szT2 byT2 agT2 unT2 zoT2 szT3 byT3 agT3 unT3 zoT3 szT24 byT24 agT24 elT24 unT24 zoT24 szT27 byT27 agT27 elT27 unT27 zoT27 szT37 byT37 agT37 elT37 unT37 zoT37 szT60 byT60 agT60 flT60 fdT60_0 fdT60_1 fdT60_2 fdT60_3 zoT60 szT62 byT62 agT62 flT62 fdT62_0 fdT62_1 fdT62_2 zoT62 szT83 byT83 agT83 flT83 fdT83_0 fdT83_1 zoT83 szT85 byT85 agT85 flT85 fdT85_0 fdT85_1 zoT85 szT145 byT145 agT145 elT145 unT145 zoT145 szT148 byT148 agT148 flT148 fdT148_0 fdT148_1 zoT148 szT205 byT205 agT205 unT205 zoT205 srT24 ixT24 lnT24 srT27 srT37 srT145

theorem gpq_get {L : List Sg} {j : Nat} (h : j < (hitP L).length) : (hitP L)[j]? = some (gpq L j):=by unfold gpq; rw [List.getD_eq_getElem?_getD,List.getElem?_eq_getElem h]; rfl
section
attribute [local simp] idf_numS cells_numS numS_fold idf_numI cells_numI numI_fold Sp.av Sp.cells Sg.av Sg.cells Pt.av Pt.cells
end

end Go.Proofs.YtjbbbkfdcegfmaaGreat

/- Walks: hits of one's own: told, marked, held, compared. -/
namespace Go.Proofs.YtjbbbkfdcegfmaaGreat
open Go Go.RowKit
set_option linter.unusedSimpArgs false
set_option linter.unusedVariables false
set_option maxRecDepth 100000
attribute [local simp] szT2 byT2 agT2 unT2 zoT2 szT3 byT3 agT3 unT3 zoT3 szT24 byT24 agT24 elT24 unT24 zoT24 srT24 ixT24 lnT24

def m1 (k : Int) (j : Nat) : List AV:=[.int .i64 (k + (j : Int))]
section
attribute [local simp] Sp.av Sp.cells Sg.av Sg.cells
end
end Go.Proofs.YtjbbbkfdcegfmaaGreat
