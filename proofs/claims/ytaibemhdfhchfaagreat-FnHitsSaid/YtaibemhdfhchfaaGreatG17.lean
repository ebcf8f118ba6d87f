/- Walks: segments that are quiet; FnExactQuiet, walked. -/
import Derived.Test.YtaibemhdfhchfaaGreatG16

namespace Go.Proofs.YtaibemhdfhchfaaGreat
open Go Go.RowKit
set_option linter.unusedSimpArgs false
set_option linter.unusedVariables false
set_option maxRecDepth 100000
attribute [local simp] szT2 byT2 agT2 unT2 zoT2 szT3 byT3 agT3 unT3 zoT3 szT24 byT24 agT24 elT24 unT24 zoT24 szT38 byT38 agT38 flT38 fdT38_0 fdT38_1 zoT38 szT40 byT40 agT40 flT40 fdT40_0 fdT40_1 zoT40

theorem gse_at {L : List Sg} {i : Nat} (h : i < L.length) : (L.map Sg.cells)[i]? = some [.int .i64 (gse L i).a.x,.int .i64 (gse L i).a.y,.int .i64 (gse L i).b.x,.int .i64 (gse L i).b.y]:=by rw [List.getElem?_map,gse_get h]; rfl

section
attribute [local simp] Sp.av Sp.cells Sg.av Sg.cells
set_option maxHeartbeats 1000000 in
theorem segsFaultI_fc (L : List Sg) (hl : L.length ≤ 1099511627776) : FC Tryz.prog 43 [.isl (L.map Sg.cells)] (.int .i64 (sgF L : Int)):=by
 refine .b Tryz.func43 18 (fun nx K hK=>?_) (hi:=by simp [idfL,idf,idfLL_iff,Sp.av,Sp.cells,Sg.av,Sg.cells])
 refine .q ?_
 refine .sq fun K2 hK2=>?_
 refine .q ?_ (by simp (disch:=first|omega|(simp only[ln];omega)) [List.length_map]; rfl)
 refine .c (t:=decide (40 < (L.length : Int))) (fun h7=>?_) (fun h7=>?_)
 ·try simp only[dc]at h7
  refine .q ?_
  refine .ret ?_
  exact hK _ _ _ _ trivial ((Fin.m).cast (by rw [sgF_many (by omega)]))
 ·try simp only[dc]at h7
  have h40 : ¬ 40 < L.length:=by omega
  refine .skip ?_
  refine hK2 _ ?_
  refine .sq fun K5 hK5=>?_
  refine .q ?_ (by simp (disch:=first|omega|(simp only[ln];omega)) [List.length_map]; rfl)
  refine .block ?_
  
  refine .loop (fun N s=>∃ i : Nat,N = L.length - i ∧ i ≤ L.length ∧ (∀ j,j < i → (gse L j).good = true) ∧ s.env 8 = .isl (L.map Sg.cells) ∧ s.env 9 = .int .i64 (L.length : Int) ∧ s.env 10 = .int .i64 (i : Int) ∧ s.nt = 18) (L.length) (by refine ⟨0,by omega,by omega,fun j h=>by omega,?_,?_,?_,rfl⟩ <;> first|(simp (disch:=omega);done)|omega|(simp;done)|(simp;omega)) ?_
  rintro N ⟨e,H,mm,nt⟩ ⟨i,rfl,hi,hgd,g8,g9,g10,rfl⟩
  simp only [] at g8 g9 g10
  refine .q ?_ (by simp (disch:=first|omega|(simp only[ln];omega)) [g8,g9,g10,List.length_map]; rfl)
  refine .sq fun K8 hK8=>?_
  refine .c (fun h11=>?_) (fun h11=>?_)
  ·try simp only[dc]at h11
   have hi' : i < L.length:=by omega
   have hat:=gse_at hi'
   refine .skip ?_
   refine hK8 _ ?_
   refine .sq fun K9 hK9=>?_
   refine .block ?_
   refine .q ?_ (by simp (disch:=first|omega|(simp only[ln];omega)) [if_pos,g8,g10,hat,List.length_map]; rfl)
   refine .sq fun K11 hK11=>?_
   refine .region ?_
   refine .kf 1 (segOkI_fc (gse L i)) hb95 ?_ (by simp (disch:=first|omega|(simp only[ln];omega)) [List.take_succ_cons,List.take_zero,g8,g9,g10,hat,List.length_map]; rfl) (ha:=by simp (disch:=first|omega|(simp only[ln];omega)) [idf_Wd',g8,g9,g10,hat,List.length_map])
   refine .e ?_ (by simp (disch:=first|omega|(simp only[ln];omega)) [g8,g9,g10,hat,List.length_map]; rfl)
   refine hK11 _ ?_
   refine .c (t:=!(gse L i).good) (fun h16=>?_) (fun h16=>?_)
   ·try simp only[dc]at h16
    have hb : ¬ (gse L i).good = true:=by simpa using h16
    refine .q ?_
    refine .ret ?_
    exact hK _ _ _ _ trivial ((Fin.m).cast (by rw [sgF_bad h40 (gse_mem hi') hb]))
   ·try simp only[dc]at h16
    have hg1 : (gse L i).good = true:=by simpa using h16
    refine .skip ?_
    refine hK9 _ ?_
    refine .r ?_ (by simp (disch:=first|omega|(simp only[ln];omega)) [g10]; rfl)
    refine ⟨L.length - (i + 1),by omega,i + 1,rfl,by omega,fun j h=>by rcases Nat.lt_succ_iff_lt_or_eq.1 h with h | h; exact hgd j h; rw [h]; exact hg1,?_,?_,?_,rfl⟩ <;> first|(simp (disch:=omega) [g8,g9,g10];done)|omega|(simp;done)|(simp;omega)
  ·try simp only[dc]at h11
   have hG : sgGood L:=sgGood_of (by omega) hgd
   refine .exit ?_
   refine hK5 _ ?_
   refine .q ?_
   refine .ret ?_
   exact hK _ _ _ _ trivial ((Fin.m).cast (by rw [sgF_ok h40 hG]))
theorem areSegs_fc (L : List Sg) (hl : L.length ≤ 1099511627776) : FC Tryz.prog 75 [.isl (L.map Sg.cells)] (.bool (decide (sgF L = 0))):=by
 refine .b Tryz.func75 6 (fun nx K hK=>?_) (hi:=by simp [idfL,idf,idfLL_iff,Sp.av,Sp.cells,Sg.av,Sg.cells])
 refine .q ?_
 refine .sq fun K2 hK2=>?_
 refine .region ?_
 refine .kf 1 (segsFaultI_fc L hl) hb43 ?_
 refine .e ?_
 refine hK2 _ ?_
 refine .ret ?_
 exact hK _ _ _ _ trivial ((Fin.m).cast (by rw [beqdI]))
set_option maxHeartbeats 1000000 in
theorem segsFaultS_fc (L : List Sg) (hl : L.length ≤ 1099511627776) : FC Tryz.prog 175 [.isl (L.map Sg.cells)] (.int .i64 (sgF L : Int)):=by
 refine .b Tryz.func175 19 (fun nx K hK=>?_) (hi:=by simp [idfL,idf,idfLL_iff,Sp.av,Sp.cells,Sg.av,Sg.cells])
 refine .q ?_
 refine .sq fun K2 hK2=>?_
 refine .q ?_ (by simp (disch:=first|omega|(simp only[ln];omega)) [List.length_map]; rfl)
 refine .c (t:=decide (40 < (L.length : Int))) (fun h6=>?_) (fun h6=>?_)
 ·try simp only[dc]at h6
  refine .q ?_
  refine .ret ?_
  exact hK _ _ _ _ trivial ((Fin.m).cast (by rw [sgF_many (by omega)]))
 ·try simp only[dc]at h6
  have h40 : ¬ 40 < L.length:=by omega
  refine .skip ?_
  refine hK2 _ ?_
  refine .sq fun K5 hK5=>?_
  refine .q ?_ (by simp (disch:=first|omega|(simp only[ln];omega)) [List.length_map]; rfl)
  refine .block ?_
  
  refine .loop (fun N s=>∃ i : Nat,N = L.length - i ∧ i ≤ L.length ∧ (∀ j,j < i → (gse L j).good = true) ∧ s.env 0 = .isl (L.map Sg.cells) ∧ s.env 3 = .int .i64 (i : Int) ∧ s.nt = 19) (L.length) (by refine ⟨0,by omega,by omega,fun j h=>by omega,?_,?_,rfl⟩ <;> first|(simp (disch:=omega);done)|omega|(simp;done)|(simp;omega)) ?_
  rintro N ⟨e,H,mm,nt⟩ ⟨i,rfl,hi,hgd,g0,g3,rfl⟩
  simp only [] at g0 g3
  refine .sq fun K7 hK7=>?_
  refine .q ?_ (by simp (disch:=first|omega|(simp only[ln];omega)) [g0,g3,List.length_map]; rfl)
  refine .c (fun h10=>?_) (fun h10=>?_)
  ·try simp only[dc]at h10
   have hi' : i < L.length:=by omega
   have hat:=gse_at hi'
   refine .skip ?_
   refine hK7 _ ?_
   refine .sq fun K9 hK9=>?_
   refine .block ?_
   refine .sq fun K10 hK10=>?_
   refine .region ?_
   refine .kf 4 (segOkS_fc (gse L i)) hb234 ?_ (by simp (disch:=first|omega|(simp only[ln];omega)) [List.take_succ_cons,List.take_zero,if_pos,g0,g3,hat,List.length_map]; rfl) (ha:=by simp (disch:=first|omega|(simp only[ln];omega)) [idf_Wd',if_pos,g0,g3,hat,List.length_map])
   refine .e ?_ (by simp (disch:=first|omega|(simp only[ln];omega)) [if_pos,g0,g3,hat,List.length_map]; rfl)
   refine hK10 _ ?_
   refine .c (t:=!(gse L i).good) (fun h18=>?_) (fun h18=>?_)
   ·try simp only[dc]at h18
    have hb : ¬ (gse L i).good = true:=by simpa using h18
    refine .q ?_
    refine .ret ?_
    exact hK _ _ _ _ trivial ((Fin.m).cast (by rw [sgF_bad h40 (gse_mem hi') hb]))
   ·try simp only[dc]at h18
    have hg1 : (gse L i).good = true:=by simpa using h18
    refine .skip ?_
    refine hK9 _ ?_
    refine .r ?_ (by simp (disch:=first|omega|(simp only[ln];omega)) [g3]; rfl)
    refine ⟨L.length - (i + 1),by omega,i + 1,rfl,by omega,fun j h=>by rcases Nat.lt_succ_iff_lt_or_eq.1 h with h | h; exact hgd j h; rw [h]; exact hg1,?_,?_,rfl⟩ <;> first|(simp (disch:=omega) [g0,g3];done)|omega|(simp;done)|(simp;omega)
  ·try simp only[dc]at h10
   have hG : sgGood L:=sgGood_of (by omega) hgd
   refine .exit ?_
   refine hK5 _ ?_
   refine .q ?_
   refine .ret ?_
   exact hK _ _ _ _ trivial ((Fin.m).cast (by rw [sgF_ok h40 hG]))
theorem l7Ok_fc (L : List Sg) (hl : L.length ≤ 1099511627776) : FC Tryz.prog 89 [.isl (L.map Sg.cells)] (.bool (decide (sgF L = 0))):=by
 refine .b Tryz.func89 6 (fun nx K hK=>?_) (hi:=by simp [idfL,idf,idfLL_iff,Sp.av,Sp.cells,Sg.av,Sg.cells])
 refine .q ?_
 refine .sq fun K2 hK2=>?_
 refine .region ?_
 refine .kf 1 (segsFaultS_fc L hl) hb175 ?_
 refine .e ?_
 refine hK2 _ ?_
 refine .ret ?_
 exact hK _ _ _ _ trivial ((Fin.m).cast (by rw [beqdI]))
end

end Go.Proofs.YtaibemhdfhchfaaGreat

/- Walks: FnPointOrder, walked. -/
namespace Go.Proofs.YtaibemhdfhchfaaGreat
open Go Go.RowKit
set_option linter.unusedSimpArgs false
set_option linter.unusedVariables false
set_option maxRecDepth 100000
attribute [local simp] szT27 byT27 agT27 flT27 fdT27_0 fdT27_1 fdT27_2 fdT27_3 zoT27 szT29 byT29 agT29 flT29 fdT29_0 fdT29_1 fdT29_2 zoT29 szT188 byT188 agT188 elT188 unT188 zoT188

section
attribute [local simp] idf_numS cells_numS numS_fold idf_numI cells_numI numI_fold Pt.av Pt.cells
set_option maxHeartbeats 1000000 in
theorem pointCmpI_fc (p q : Pt) (hp : p.ok) (hq : q.ok) : FC Tryz.prog 40 [p.av,q.av] (.int .i64 (oc p q)):=by
 have ha:=arePoints_fc [p,q] (by simp [hp,hq]) (by simp)
 have e : [p,q].all Pt.good = (p.good && q.good):=by simp
 rw [e] at ha
 refine .b Tryz.func40 13 (fun nx K hK=>?_) (hi:=by simp [idfL,idf,Pt.av,Pt.cells])
 refine .q ?_
 refine .sq fun K2 hK2=>?_
 refine .sq fun K3 hK3=>?_
 refine .region ?_
 refine .k 3 ?_
 refine AOPS.frz1 7 (nx + 1 + 1) 12 [p.cells,q.cells] (.isl [p.cells,q.cells]) (by simp [Pt.cells]) (by simp [fz]) ?_
 refine .f ha hb133 ?_
 refine .e ?_
 refine hK3 _ ?_
 refine .c (t:=!(p.good && q.good)) (fun h9=>?_) (fun h9=>?_)
 ·try simp only[dc]at h9
  have hg : (p.good && q.good) = false:=by revert h9; cases p.good <;> cases q.good <;> simp
  refine .q ?_
  refine .ret ?_
  exact hK _ _ _ _ trivial ((Fin.m).cast (by unfold oc; rw [hg]; rfl))
 ·try simp only[dc]at h9
  have hg : (p.good && q.good) = true:=by revert h9; cases p.good <;> cases q.good <;> simp
  refine .skip ?_
  refine hK2 _ ?_
  refine .sq fun K5 hK5=>?_
  refine .region ?_
  refine .kf 2 (cmpPoints_fc p q hp hq) hb123 ?_
  refine .e ?_
  refine hK5 _ ?_
  refine .ret ?_
  exact hK _ _ _ _ trivial ((Fin.m).cast (by unfold oc; rw [if_pos hg]))
end

end Go.Proofs.YtaibemhdfhchfaaGreat

/- Walks: drawn segments. -/
namespace Go.Proofs.YtaibemhdfhchfaaGreat
open Go Go.RowKit
set_option linter.unusedSimpArgs false
set_option linter.unusedVariables false
set_option maxRecDepth 100000
attribute [local simp] szT2 byT2 agT2 unT2 zoT2 szT3 byT3 agT3 unT3 zoT3 szT32 byT32 agT32 elT32 unT32 zoT32 szT38 byT38 agT38 flT38 fdT38_0 fdT38_1 zoT38 szT40 byT40 agT40 flT40 fdT40_0 fdT40_1 zoT40

def tabO : List Int:=[-1000001,1000001,-9223372036854775808,9223372036854775807]
theorem tabO_b (k : Nat) : I64 (gt tabO k):=by
  have h : ∀ x ∈ tabO,-9223372036854775808 ≤ x ∧ x ≤ 9223372036854775807:=by decide
  unfold gt I64
  cases hk : tabO[k]? with
  | none=>simp
  | some x=>simpa using h x (List.mem_of_getElem? hk)
def sgZ : Sg:=⟨⟨0,0⟩,⟨0,0⟩⟩
def segS (a b : Sp) : Sg × Bool:=if (segO a b).good = true then (segO a b,true) else (sgZ,false)
theorem segO_ok {a b : Sp} (ha : a.ok) (hb : b.ok) : (segO a b).ok:=by unfold segO; split; exact ⟨hb,ha⟩; exact ⟨ha,hb⟩
theorem sgZ_ok : sgZ.ok:=by unfold Sg.ok Sp.ok I64 sgZ; simp
theorem segS_ok {a b : Sp} (ha : a.ok) (hb : b.ok) : (segS a b).1.ok:=by unfold segS; split; exact segO_ok ha hb; exact sgZ_ok

section
attribute [local simp] Sp.av Sp.cells Sg.av Sg.cells
set_option maxHeartbeats 2000000 in
theorem segOfS_fc (a b : Sp) : FC Tryz.prog 156 [a.av,b.av] (.tup [.agg [.int .i64 ((segS a b).1).a.x,.int .i64 ((segS a b).1).a.y,.int .i64 ((segS a b).1).b.x,.int .i64 ((segS a b).1).b.y],.bool (segS a b).2]):=by
 refine .b Tryz.func156 20 (fun nx K hK=>?_) (hi:=by simp [idfL,idf,Sp.av,Sp.cells,Sg.av,Sg.cells])
 refine .q ?_
 refine .sq fun K2 hK2=>?_
 refine .sq fun K3 hK3=>?_
 cases hl : lsS b a
 ·have es : segO a b = ⟨a,b⟩:=by unfold segO; rw [hl]; rfl
  refine .region ?_
  refine .kf 2 (l4Less_fc b a) hb191 ?_ (by simp (disch:=first|omega|(simp only[ln];omega)) [List.take_succ_cons,List.take_zero,hl]; rfl) (ha:=by simp (disch:=first|omega|(simp only[ln];omega)) [idf_Wd',hl])
  refine .nil ?_
  refine hK3 _ ?_
  refine .c (fun h9=>?_) (fun h9=>?_)
  ·simp [hl] at h9
  ·try simp only[dc]at h9
   refine .skip ?_
   refine hK2 _ ?_
   refine .q ?_
   refine .sq fun K5 hK5=>?_
   refine .sq fun K6 hK6=>?_
   refine .region ?_
   refine .kf 1 (segOkS_fc ⟨a,b⟩) hb234 ?_
   refine .e ?_
   refine hK6 _ ?_
   refine .c (t:=!(Sg.good ⟨a,b⟩)) (fun h17=>?_) (fun h17=>?_)
   ·try simp only[dc]at h17
    have hg : (segO a b).good = false:=by rw [es]; simpa using h17
    refine .q ?_
    refine .ret ?_
    exact hK _ _ _ _ trivial ((Fin.m).cast (by unfold segS; rw [hg]; rfl))
   ·try simp only[dc]at h17
    have hg : (segO a b).good = true:=by rw [es]; simpa using h17
    refine .skip ?_
    refine hK5 _ ?_
    refine .q ?_
    refine .ret ?_
    exact hK _ _ _ _ trivial ((Fin.m).cast (by unfold segS; rw [if_pos hg,es]; try rfl))
 ·have es : segO a b = ⟨b,a⟩:=by unfold segO; rw [hl]; rfl
  refine .region ?_
  refine .kf 2 (l4Less_fc b a) hb191 ?_ (by simp (disch:=first|omega|(simp only[ln];omega)) [List.take_succ_cons,List.take_zero,hl]; rfl) (ha:=by simp (disch:=first|omega|(simp only[ln];omega)) [idf_Wd',hl])
  refine .nil ?_
  refine hK3 _ ?_
  refine .c (fun h9=>?_) (fun h9=>?_)
  ·try simp only[dc]at h9
   refine .r ?_
   refine hK2 _ ?_
   refine .q ?_
   refine .sq fun K10 hK10=>?_
   refine .sq fun K11 hK11=>?_
   refine .region ?_
   refine .kf 1 (segOkS_fc ⟨b,a⟩) hb234 ?_
   refine .e ?_
   refine hK11 _ ?_
   refine .c (t:=!(Sg.good ⟨b,a⟩)) (fun h17=>?_) (fun h17=>?_)
   ·try simp only[dc]at h17
    have hg : (segO a b).good = false:=by rw [es]; simpa using h17
    refine .q ?_
    refine .ret ?_
    exact hK _ _ _ _ trivial ((Fin.m).cast (by unfold segS; rw [hg]; rfl))
   ·try simp only[dc]at h17
    have hg : (segO a b).good = true:=by rw [es]; simpa using h17
    refine .skip ?_
    refine hK10 _ ?_
    refine .q ?_
    refine .ret ?_
    exact hK _ _ _ _ trivial ((Fin.m).cast (by unfold segS; rw [if_pos hg,es]; try rfl))
  ·simp [hl] at h9
end
set_option maxHeartbeats 2000000 in
theorem off_ac (l : List Int) (p id : Nat) (H : Heap) (nx : Nat) (dl : Dig 256 l) (hl : l.length ≤ 1048576) (hp : p ≤ l.length) (hH : H id = some (2,[[Wd .u8 l,.int .i64 (p : Int)]])) (hd : ∀ i q,H i = some q → i < nx) : ACall Tryz.prog 120 [.ptr id 0 0,.int .i64 (-1000000),.int .i64 1000000] H nx (fun r H' nx'=>(∃ k : Int,r = .int .i64 k ∧ I64 k) ∧ (∃ p' : Nat,p' ≤ l.length ∧ H' = hupd H id (some (2,[[Wd .u8 l,.int .i64 (p' : Int)]]))) ∧ nx ≤ nx'):=by
 have hid:=hd id _ hH
 have tOl : tabO.length = 4:=rfl
 refine .b Tryz.func120 22 fun K hK=>?_
 refine .q ?_
 refine .sq fun K2 hK2=>?_
 refine .sq fun K3 hK3=>?_
 refine .region ?_
 refine .k 1 ?_ (by simp (disch:=first|omega|(simp only[ln];omega)) [List.take_succ_cons,List.take_zero,hH]; rfl)
 refine AOPS.old fun hold1=>?_
 refine .a (once_ac 24 (by omega) (by omega) l p id _ _ dl hl hp (by simp (disch:=omega) [hH]) hold1) hb98 ?_ (ha:=by simp (disch:=first|omega|(simp only[ln];omega)) [idf_Wd',hH])
 rintro _ _ nx2 ⟨⟨b,rfl⟩,⟨p2,hp2,rfl⟩,hnx2⟩
 try simp only [] at hnx2
 clear hold1
 refine .nil ?_
 refine hK3 _ ?_
 refine .c (t:=b) (fun h8=>?_) (fun h8=>?_)
 ·try simp only[dc]at h8
  refine .sq fun K4 hK4=>?_
  refine .region ?_
  refine .k 6 ?_ (by simp (disch:=first|omega|(simp only[ln];omega)) [List.take_succ_cons,List.take_zero,idx_WdD (P:=Tryz.prog) elT32 szT2,if_pos,tOl]; rfl)
  refine AOPS.frz1 13 nx2 1 (wd .i64 tabO) (Wd .i64 tabO) (by simp; rfl) (by simp; first | exact fz_wd rfl | exact isl_take_wd (by decide)) ?_
  refine AOPS.old fun hold6=>?_
  refine .a (below_ac 4 (by omega) (by omega) l p2 id _ _ dl hl hp2 (by simp (disch:=omega) [hH]) hold6) hb100 ?_ (ha:=by simp (disch:=first|omega|(simp only[ln];omega)) [idf_Wd',idx_WdD (P:=Tryz.prog) elT32 szT2,if_pos,tOl])
  rintro _ _ nx3 ⟨⟨k,rfl,k0,k1⟩,⟨p3,hp3,rfl⟩,hnx3⟩
  try simp only [] at hnx3
  clear hold6
  have hk : k.toNat < 4:=by omega
  refine .e ?_ (by simp (disch:=first|omega|(simp only[ln];omega)) [idx_WdD (P:=Tryz.prog) elT32 szT2,if_pos,tOl]; rfl)
  refine hK4 _ ?_
  refine .ret ?_
  exact hK _ _ _ _ _ trivial ((Fin.mk (r:=.int .i64 (gt tabO k.toNat)) (by simp (disch:=omega) [aRes,aResL,aRes1])).restr (fun i=>decide (i < nx))) (⟨⟨gt tabO k.toNat,rfl,tabO_b _⟩,⟨p3,hp3,by simp (disch:=first | omega | (simp; done) | (simp; omega)) [hrestr_in,hrestr_out,hrestr_all hd,hupd_same]⟩,by first | omega | (simp at *; omega)⟩)
 ·try simp only[dc]at h8
  refine .skip ?_
  refine hK2 _ ?_
  refine .sq fun K5 hK5=>?_
  refine .region ?_
  refine .k 3 ?_
  refine AOPS.old fun hold3=>?_
  refine .a (near_ac (-1000000) (1000000) (by omega) (by omega) (by omega) l p2 id _ _ dl hl hp2 (by simp (disch:=omega) [hH]) hold3) hb162 ?_
  rintro _ _ nx3 ⟨⟨k,rfl,k0,k1⟩,⟨p3,hp3,rfl⟩,hnx3⟩
  try simp only [] at hnx3
  clear hold3
  refine .e ?_
  refine hK5 _ ?_
  refine .ret ?_
  exact hK _ _ _ _ _ trivial ((Fin.mk (r:=.int .i64 k) (by simp (disch:=omega) [aRes,aResL,aRes1])).restr (fun i=>decide (i < nx))) (⟨⟨k,rfl,by unfold I64; omega⟩,⟨p3,hp3,by simp (disch:=first | omega | (simp; done) | (simp; omega)) [hrestr_in,hrestr_out,hrestr_all hd,hupd_same]⟩,by first | omega | (simp at *; omega)⟩)
section
attribute [local simp] Sp.av Sp.cells Sg.av Sg.cells
set_option maxHeartbeats 8000000 in
theorem seg_ac (l : List Int) (p id : Nat) (H : Heap) (nx : Nat) (dl : Dig 256 l) (hl : l.length ≤ 1048576) (hp : p ≤ l.length) (hH : H id = some (2,[[Wd .u8 l,.int .i64 (p : Int)]])) (hd : ∀ i q,H i = some q → i < nx) : ACall Tryz.prog 157 [.ptr id 0 0] H nx (fun r H' nx'=>(∃ s : Sg,r = .agg [.int .i64 (s).a.x,.int .i64 (s).a.y,.int .i64 (s).b.x,.int .i64 (s).b.y] ∧ s.ok) ∧ (∃ p' : Nat,p' ≤ l.length ∧ H' = hupd H id (some (2,[[Wd .u8 l,.int .i64 (p' : Int)]]))) ∧ nx ≤ nx'):=by
 have hid:=hd id _ hH
 refine .b Tryz.func157 66 fun K hK=>?_
 refine .q ?_
 refine .sq fun K2 hK2=>?_
 refine .sq fun K3 hK3=>?_
 refine .region ?_
 refine .k 1 ?_ (by simp (disch:=first|omega|(simp only[ln];omega)) [List.take_succ_cons,List.take_zero,hH]; rfl)
 refine AOPS.old fun hold1=>?_
 refine .a (below_ac 20 (by omega) (by omega) l p id _ _ dl hl hp (by simp (disch:=omega) [hH]) hold1) hb100 ?_ (ha:=by simp (disch:=first|omega|(simp only[ln];omega)) [idf_Wd',hH])
 rintro _ _ nx2 ⟨⟨k,rfl,k0,k1⟩,⟨p2,hp2,rfl⟩,hnx2⟩
 try simp only [] at hnx2
 clear hold1
 refine .nil ?_
 refine hK3 _ ?_
 refine .block ?_
 refine .q ?_
 refine .c (t:=k == 0) (fun h11=>?_) (fun h11=>?_)
 ·try simp only[dc]at h11
  refine .sq fun K5 hK5=>?_
  refine .region ?_
  refine .k 1 ?_
  refine AOPS.old fun hold1=>?_
  refine .a (off_ac l p2 id _ _ dl hl hp2 (by simp (disch:=omega) [hH]) hold1) hb120 ?_
  rintro _ _ nx3 ⟨⟨ka,rfl,kai⟩,⟨p3,hp3,rfl⟩,hnx3⟩
  try simp only [] at hnx3
  clear hold1
  refine .k 1 ?_
  refine AOPS.old fun hold3=>?_
  refine .a (off_ac l p3 id _ _ dl hl hp3 (by simp (disch:=omega) [hH]) hold3) hb120 ?_
  rintro _ _ nx4 ⟨⟨kb,rfl,kbi⟩,⟨p4,hp4,rfl⟩,hnx4⟩
  try simp only [] at hnx4
  clear hold3
  refine .k 2 ?_
  refine AOPS.old fun hold6=>?_
  refine .a (off_ac l p4 id _ _ dl hl hp4 (by simp (disch:=omega) [hH]) hold6) hb120 ?_
  rintro _ _ nx5 ⟨⟨kc,rfl,kci⟩,⟨p5,hp5,rfl⟩,hnx5⟩
  try simp only [] at hnx5
  clear hold6
  refine .k 1 ?_
  refine AOPS.old fun hold8=>?_
  refine .a (off_ac l p5 id _ _ dl hl hp5 (by simp (disch:=omega) [hH]) hold8) hb120 ?_
  rintro _ _ nx6 ⟨⟨kd,rfl,kdi⟩,⟨p6,hp6,rfl⟩,hnx6⟩
  try simp only [] at hnx6
  clear hold8
  refine .e ?_
  refine hK5 _ ?_
  refine .ret ?_
  exact hK _ _ _ _ _ trivial ((Fin.mk (r:=.agg [.int .i64 ((⟨⟨ka,kb⟩,⟨kc,kd⟩⟩ : Sg)).a.x,.int .i64 ((⟨⟨ka,kb⟩,⟨kc,kd⟩⟩ : Sg)).a.y,.int .i64 ((⟨⟨ka,kb⟩,⟨kc,kd⟩⟩ : Sg)).b.x,.int .i64 ((⟨⟨ka,kb⟩,⟨kc,kd⟩⟩ : Sg)).b.y]) (by simp (disch:=omega) [aRes,aResL,aRes1])).restr (fun i=>decide (i < nx))) (⟨⟨(⟨⟨ka,kb⟩,⟨kc,kd⟩⟩ : Sg),rfl,⟨⟨kai,kbi⟩,⟨kci,kdi⟩⟩⟩,⟨p6,hp6,by simp (disch:=first | omega | (simp; done) | (simp; omega)) [hrestr_in,hrestr_out,hrestr_all hd,hupd_same]⟩,by first | omega | (simp at *; omega)⟩)
 ·try simp only[dc]at h11
  refine .q ?_
  refine .c (t:=k == 1) (fun h24=>?_) (fun h24=>?_)
  ·try simp only[dc]at h24
   refine .sq fun K7 hK7=>?_
   refine .region ?_
   refine .k 1 ?_
   refine AOPS.old fun hold1=>?_
   refine .a (near_ac (-1000000) (1000000) (by omega) (by omega) (by omega) l p2 id _ _ dl hl hp2 (by simp (disch:=omega) [hH]) hold1) hb162 ?_
   rintro _ _ nx3 ⟨⟨ka,rfl,ka0,ka1⟩,⟨p3,hp3,rfl⟩,hnx3⟩
   try simp only [] at hnx3
   clear hold1
   refine .k 1 ?_
   refine AOPS.old fun hold3=>?_
   refine .a (near_ac (-1000000) (1000000) (by omega) (by omega) (by omega) l p3 id _ _ dl hl hp3 (by simp (disch:=omega) [hH]) hold3) hb162 ?_
   rintro _ _ nx4 ⟨⟨kb,rfl,kb0,kb1⟩,⟨p4,hp4,rfl⟩,hnx4⟩
   try simp only [] at hnx4
   clear hold3
   refine .k 2 ?_
   refine AOPS.old fun hold6=>?_
   refine .a (near_ac (-1000000) (1000000) (by omega) (by omega) (by omega) l p4 id _ _ dl hl hp4 (by simp (disch:=omega) [hH]) hold6) hb162 ?_
   rintro _ _ nx5 ⟨⟨kc,rfl,kc0,kc1⟩,⟨p5,hp5,rfl⟩,hnx5⟩
   try simp only [] at hnx5
   clear hold6
   refine .k 1 ?_
   refine AOPS.old fun hold8=>?_
   refine .a (near_ac (-1000000) (1000000) (by omega) (by omega) (by omega) l p5 id _ _ dl hl hp5 (by simp (disch:=omega) [hH]) hold8) hb162 ?_
   rintro _ _ nx6 ⟨⟨kd,rfl,kd0,kd1⟩,⟨p6,hp6,rfl⟩,hnx6⟩
   try simp only [] at hnx6
   clear hold8
   refine .kf 1 (segOfS_fc ⟨ka,kb⟩ ⟨kc,kd⟩) hb156 ?_
   refine .e ?_
   refine hK7 _ ?_
   refine .q ?_
   refine .ret ?_
   exact hK _ _ _ _ _ trivial ((Fin.mk (r:=.agg [.int .i64 ((segS ⟨ka,kb⟩ ⟨kc,kd⟩).1).a.x,.int .i64 ((segS ⟨ka,kb⟩ ⟨kc,kd⟩).1).a.y,.int .i64 ((segS ⟨ka,kb⟩ ⟨kc,kd⟩).1).b.x,.int .i64 ((segS ⟨ka,kb⟩ ⟨kc,kd⟩).1).b.y]) (by simp (disch:=omega) [aRes,aResL,aRes1])).restr (fun i=>decide (i < nx))) (⟨⟨(segS ⟨ka,kb⟩ ⟨kc,kd⟩).1,rfl,segS_ok ⟨by unfold I64; first | omega | (simp only []; omega),by unfold I64; first | omega | (simp only []; omega)⟩ ⟨by unfold I64; first | omega | (simp only []; omega),by unfold I64; first | omega | (simp only []; omega)⟩⟩,⟨p6,hp6,by simp (disch:=first | omega | (simp; done) | (simp; omega)) [hrestr_in,hrestr_out,hrestr_all hd,hupd_same]⟩,by first | omega | (simp at *; omega)⟩)
  ·try simp only[dc]at h24
   refine .q ?_
   refine .c (t:=k == 2) (fun h41=>?_) (fun h41=>?_)
   ·try simp only[dc]at h41
    refine .sq fun K10 hK10=>?_
    refine .region ?_
    refine .k 1 ?_
    refine AOPS.old fun hold1=>?_
    refine .a (spot_ac l p2 id _ _ dl hl hp2 (by simp (disch:=omega) [hH]) hold1) hb155 ?_
    rintro _ _ nx3 ⟨⟨ax,ay,rfl,ax0,ax1,ay0,ay1⟩,⟨p3,hp3,rfl⟩,hnx3⟩
    try simp only [] at hnx3
    clear hold1
    refine .k 1 ?_
    refine AOPS.old fun hold3=>?_
    refine .a (spot_ac l p3 id _ _ dl hl hp3 (by simp (disch:=omega) [hH]) hold3) hb155 ?_
    rintro _ _ nx4 ⟨⟨cx,cy,rfl,cx0,cx1,cy0,cy1⟩,⟨p4,hp4,rfl⟩,hnx4⟩
    try simp only [] at hnx4
    clear hold3
    refine .e ?_
    refine hK10 _ ?_
    refine .ret ?_
    exact hK _ _ _ _ _ trivial ((Fin.mk (r:=.agg [.int .i64 ((⟨⟨ax,ay⟩,⟨cx,cy⟩⟩ : Sg)).a.x,.int .i64 ((⟨⟨ax,ay⟩,⟨cx,cy⟩⟩ : Sg)).a.y,.int .i64 ((⟨⟨ax,ay⟩,⟨cx,cy⟩⟩ : Sg)).b.x,.int .i64 ((⟨⟨ax,ay⟩,⟨cx,cy⟩⟩ : Sg)).b.y]) (by simp (disch:=omega) [aRes,aResL,aRes1])).restr (fun i=>decide (i < nx))) (⟨⟨(⟨⟨ax,ay⟩,⟨cx,cy⟩⟩ : Sg),rfl,⟨⟨by unfold I64; first | omega | (simp only []; omega),by unfold I64; first | omega | (simp only []; omega)⟩,⟨by unfold I64; first | omega | (simp only []; omega),by unfold I64; first | omega | (simp only []; omega)⟩⟩⟩,⟨p4,hp4,by simp (disch:=first | omega | (simp; done) | (simp; omega)) [hrestr_in,hrestr_out,hrestr_all hd,hupd_same]⟩,by first | omega | (simp at *; omega)⟩)
   ·try simp only[dc]at h41
    refine .skip ?_
    refine hK2 _ ?_
    refine .sq fun K11 hK11=>?_
    refine .region ?_
    refine .k 1 ?_
    refine AOPS.old fun hold1=>?_
    refine .a (spot_ac l p2 id _ _ dl hl hp2 (by simp (disch:=omega) [hH]) hold1) hb155 ?_
    rintro _ _ nx3 ⟨⟨ax,ay,rfl,ax0,ax1,ay0,ay1⟩,⟨p3,hp3,rfl⟩,hnx3⟩
    try simp only [] at hnx3
    clear hold1
    refine .e ?_
    refine hK11 _ ?_
    refine .sq fun K12 hK12=>?_
    refine .region ?_
    refine .k 1 ?_
    refine AOPS.old fun hold1=>?_
    refine .a (spot_ac l p3 id _ _ dl hl hp3 (by simp (disch:=omega) [hH]) hold1) hb155 ?_
    rintro _ _ nx4 ⟨⟨cx,cy,rfl,cx0,cx1,cy0,cy1⟩,⟨p4,hp4,rfl⟩,hnx4⟩
    try simp only [] at hnx4
    clear hold1
    refine .e ?_
    refine hK12 _ ?_
    refine .sq fun K13 hK13=>?_
    refine .sq fun K14 hK14=>?_
    by_cases he : (⟨ax,ay⟩ : Sp) = ⟨cx,cy⟩
    ·have hc : decide ((⟨ax,ay⟩ : Sp) = ⟨cx,cy⟩) = true:=by simp [he]
     have hq:=eqW2 ⟨ax,ay⟩ ⟨cx,cy⟩
     rw [hc] at hq
     simp only [] at hq
     refine .r ?_ (by simp (disch:=first|omega|(simp only[ln];omega)) [hq]; rfl)
     refine hK14 _ ?_
     refine .c (fun h54=>?_) (fun h54=>?_)
     ·try simp only[dc]at h54
      refine .r ?_
      refine hK13 _ ?_
      refine .sq fun K15 hK15=>?_
      refine .region ?_
      refine .kf 2 (segOfS_fc ⟨ax,ay⟩ ⟨cx + 1,cy⟩) hb156 ?_
      refine .e ?_
      refine hK15 _ ?_
      refine .q ?_
      refine .ret ?_
      exact hK _ _ _ _ _ trivial ((Fin.mk (r:=.agg [.int .i64 ((segS ⟨ax,ay⟩ ⟨cx + 1,cy⟩).1).a.x,.int .i64 ((segS ⟨ax,ay⟩ ⟨cx + 1,cy⟩).1).a.y,.int .i64 ((segS ⟨ax,ay⟩ ⟨cx + 1,cy⟩).1).b.x,.int .i64 ((segS ⟨ax,ay⟩ ⟨cx + 1,cy⟩).1).b.y]) (by simp (disch:=omega) [aRes,aResL,aRes1])).restr (fun i=>decide (i < nx))) (⟨⟨(segS ⟨ax,ay⟩ ⟨cx + 1,cy⟩).1,rfl,segS_ok ⟨by unfold I64; first | omega | (simp only []; omega),by unfold I64; first | omega | (simp only []; omega)⟩ ⟨by unfold I64; first | omega | (simp only []; omega),by unfold I64; first | omega | (simp only []; omega)⟩⟩,⟨p4,hp4,by simp (disch:=first | omega | (simp; done) | (simp; omega)) [hrestr_in,hrestr_out,hrestr_all hd,hupd_same]⟩,by first | omega | (simp at *; omega)⟩)
     ·simp at h54
    ·have hc : decide ((⟨ax,ay⟩ : Sp) = ⟨cx,cy⟩) = false:=by simp [he]
     have hq:=eqW2 ⟨ax,ay⟩ ⟨cx,cy⟩
     rw [hc] at hq
     simp only [] at hq
     refine .r ?_ (by simp (disch:=first|omega|(simp only[ln];omega)) [hq]; rfl)
     refine hK14 _ ?_
     refine .c (fun h54=>?_) (fun h54=>?_)
     ·simp at h54
     ·try simp only[dc]at h54
      refine .skip ?_
      refine hK13 _ ?_
      refine .sq fun K17 hK17=>?_
      refine .region ?_
      refine .kf 2 (segOfS_fc ⟨ax,ay⟩ ⟨cx,cy⟩) hb156 ?_
      refine .e ?_
      refine hK17 _ ?_
      refine .q ?_
      refine .ret ?_
      exact hK _ _ _ _ _ trivial ((Fin.mk (r:=.agg [.int .i64 ((segS ⟨ax,ay⟩ ⟨cx,cy⟩).1).a.x,.int .i64 ((segS ⟨ax,ay⟩ ⟨cx,cy⟩).1).a.y,.int .i64 ((segS ⟨ax,ay⟩ ⟨cx,cy⟩).1).b.x,.int .i64 ((segS ⟨ax,ay⟩ ⟨cx,cy⟩).1).b.y]) (by simp (disch:=omega) [aRes,aResL,aRes1])).restr (fun i=>decide (i < nx))) (⟨⟨(segS ⟨ax,ay⟩ ⟨cx,cy⟩).1,rfl,segS_ok ⟨by unfold I64; first | omega | (simp only []; omega),by unfold I64; first | omega | (simp only []; omega)⟩ ⟨by unfold I64; first | omega | (simp only []; omega),by unfold I64; first | omega | (simp only []; omega)⟩⟩,⟨p4,hp4,by simp (disch:=first | omega | (simp; done) | (simp; omega)) [hrestr_in,hrestr_out,hrestr_all hd,hupd_same]⟩,by first | omega | (simp at *; omega)⟩)
end

end Go.Proofs.YtaibemhdfhchfaaGreat

/- Walks: FnOver, walked. -/
namespace Go.Proofs.YtaibemhdfhchfaaGreat
open Go Go.RowKit
set_option linter.unusedSimpArgs false
set_option linter.unusedVariables false
set_option maxRecDepth 100000
attribute [local simp] szT2 byT2 agT2 unT2 zoT2 szT4 byT4 agT4 unT4 zoT4 szT27 byT27 agT27 flT27 fdT27_0 fdT27_1 fdT27_2 fdT27_3 zoT27 szT29 byT29 agT29 flT29 fdT29_0 fdT29_1 fdT29_2 zoT29 szT38 byT38 agT38 flT38 fdT38_0 fdT38_1 zoT38 szT40 byT40 agT40 flT40 fdT40_0 fdT40_1 zoT40 szT108 byT108 agT108 elT108 unT108 zoT108 szT110 byT110 agT110 flT110 fdT110_0 fdT110_1 zoT110 szT112 byT112 agT112 flT112 fdT112_0 fdT112_1 fdT112_2 zoT112

section
attribute [local simp] idf_numS cells_numS numS_fold idf_numI cells_numI numI_fold Sp.av Sp.cells Sg.av Sg.cells Pt.av Pt.cells spA spC numC
set_option maxHeartbeats 4000000 in
theorem sideOfI_fc (s : Sg) (p : Pt) (gs : s.good = true) (hp : p.ok) : FC Tryz.prog 96 [s.av,p.av] (.int .i64 (sdF s p)):=by
 obtain ⟨ax0,ax1,ay0,ay1⟩:=Sp.b (good_a gs)
 obtain ⟨bx0,bx1,by0,by1⟩:=Sp.b (good_b gs)
 have pX:=W4.bg hp.1
 have pY:=W4.bg hp.2.1
 have pW:=W4.bg hp.2.2
 have aX : Bg 1 s.a.x:=Bg.i64 (by omega) (by omega)
 have aY : Bg 1 s.a.y:=Bg.i64 (by omega) (by omega)
 have bX : Bg 1 s.b.x:=Bg.i64 (by omega) (by omega)
 have bY : Bg 1 s.b.y:=Bg.i64 (by omega) (by omega)
 have dX' : Bg 1 (s.b.x - s.a.x):=Bg.i64 (by omega) (by omega)
 have dY' : Bg 1 (s.b.y - s.a.y):=Bg.i64 (by omega) (by omega)
 refine .b Tryz.func96 52 (fun nx K hK=>?_) (hi:=by simp [idfL,idf,Sp.av,Sp.cells,Sg.av,Sg.cells,Pt.av,Pt.cells])
 refine .q ?_
 refine .sq fun K2 hK2=>?_
 refine .region ?_
 refine .kf 1 (spot_fc p hp) hb77 ?_
 refine .e ?_
 refine hK2 _ ?_
 refine .sq fun K3 hK3=>?_
 refine .d 11 ?_
 refine .k 5 (fun fs4 hfs4=>?_)
 refine .f (whole_fc s.a.x (by omega) (by omega)) hb79 ?_
 refine .k 2 (fun fs5 hfs5=>?_)
 refine .f (by_fc aX pW (by omega) (by omega)) hb80 ?_
 refine .f (less_fc pX (aX.mul pW) (by omega) (by omega)) hb82 ?_
 refine .k 1 (fun fs6 hfs6=>?_)
 refine .r 11 (by simp only[ln,hfs4,hfs5,hfs6];omega) ?_
 refine hK3 _ ?_
 refine .sq fun K7 hK7=>?_
 refine .d 11 ?_
 refine .k 5 (fun fs8 hfs8=>?_)
 refine .f (whole_fc s.a.y (by omega) (by omega)) hb79 ?_
 refine .k 2 (fun fs9 hfs9=>?_)
 refine .f (by_fc aY pW (by omega) (by omega)) hb80 ?_
 refine .f (less_fc pY (aY.mul pW) (by omega) (by omega)) hb82 ?_
 refine .k 1 (fun fs10 hfs10=>?_)
 refine .r 11 (by simp only[ln,hfs8,hfs9,hfs10];omega) ?_
 refine hK7 _ ?_
 refine .sq fun K11 hK11=>?_
 have bQ:=pX.sub (aX.mul pW)
 have bR:=pY.sub (aY.mul pW)
 have hs : FC Tryz.prog 163 [numI ((s.b.x - s.a.x) * (p.y.v - s.a.y * p.w.v) - (s.b.y - s.a.y) * (p.x.v - s.a.x * p.w.v))] (.int .i64 (sdF s p)):=sign_fc (sdZ s p)
 refine .d 22 ?_
 refine .k 7 (fun fs12 hfs12=>?_)
 refine .f (whole_fc (s.b.x - s.a.x) (by omega) (by omega)) hb79 ?_
 refine .k 1 (fun fs13 hfs13=>?_)
 refine .f (by_fc dX' bR (by omega) (by omega)) hb80 ?_
 refine .k 7 (fun fs14 hfs14=>?_)
 refine .f (whole_fc (s.b.y - s.a.y) (by omega) (by omega)) hb79 ?_
 refine .k 1 (fun fs15 hfs15=>?_)
 refine .f (by_fc dY' bQ (by omega) (by omega)) hb80 ?_
 refine .f (less_fc (dX'.mul bR) (dY'.mul bQ) (by omega) (by omega)) hb82 ?_
 refine .f hs hb163 ?_
 refine .r 22 (by simp only[ln,hfs12,hfs13,hfs14,hfs15];omega) ?_
 refine hK11 _ ?_
 refine .ret ?_
 exact hK _ _ _ _ trivial (Fin.m)
end
section
attribute [local simp] idf_numS cells_numS numS_fold idf_numI cells_numI numI_fold Sp.av Sp.cells Sg.av Sg.cells Pt.av Pt.cells
set_option maxHeartbeats 4000000 in
theorem onSegI_fc (s : Sg) (p : Pt) (gs : s.good = true) (hp : p.ok) : FC Tryz.prog 138 [s.av,p.av] (.bool (onF s p)):=by
 have c1:=cmpPoints_fc (ptS s.a) p (pt3_ok _ _ _) hp
 have c2:=cmpPoints_fc p (ptS s.b) hp (pt3_ok _ _ _)
 have o1:=pointOfI_fc s.a (good_a gs)
 have o2:=pointOfI_fc s.b (good_b gs)
 refine .b Tryz.func138 25 (fun nx K hK=>?_) (hi:=by simp [idfL,idf,Sp.av,Sp.cells,Sg.av,Sg.cells,Pt.av,Pt.cells])
 refine .q ?_
 refine .sq fun K2 hK2=>?_
 cases k1 : decide (cmV (ptS s.a) p ≤ 0)
 ·refine .d 20 ?_
  refine .k 2 (fun fs3 hfs3=>?_) (by simp (disch:=first|omega|(simp only[ln];omega)) [runDf.eq_def,runF1,runF2,stepF.eq_def,updo.eq_def,hupo.eq_def,opSto1.eq_def,List.take_succ_cons,List.take_zero,k1]; rfl)
  refine .f o1 hb46 ?_ (ha:=by simp (disch:=first|omega|(simp only[ln];omega)) [idf_Wd',k1])
  refine .k 1 (fun fs4 hfs4=>?_) (by simp (disch:=first|omega|(simp only[ln];omega)) [runDf.eq_def,runF1,runF2,stepF.eq_def,updo.eq_def,hupo.eq_def,opSto1.eq_def,List.take_succ_cons,List.take_zero,k1]; rfl)
  refine .f c1 hb123 ?_ (ha:=by simp (disch:=first|omega|(simp only[ln];omega)) [idf_Wd',k1])
  refine .k 15 (fun fs5 hfs5=>?_) (by simp (disch:=first|omega|(simp only[ln];omega)) [runDf.eq_def,runF1,runF2,stepF.eq_def,updo.eq_def,hupo.eq_def,opSto1.eq_def,List.take_succ_cons,List.take_zero,k1]; rfl)
  refine .r 20 (by simp only[ln,hfs3,hfs4,hfs5];omega) ?_ (by simp (disch:=first|omega|(simp only[ln];omega)) [runDf.eq_def,runF1,runF2,stepF.eq_def,updo.eq_def,hupo.eq_def,opSto1.eq_def,k1]; rfl)
  refine hK2 _ ?_
  refine .ret ?_
  exact hK _ _ _ _ trivial ((Fin.m).cast (by unfold onF; rw [k1]; rfl))
 ·cases k2 : decide (cmV p (ptS s.b) ≤ 0)
  ·refine .d 20 ?_
   refine .k 2 (fun fs6 hfs6=>?_) (by simp (disch:=first|omega|(simp only[ln];omega)) [runDf.eq_def,runF1,runF2,stepF.eq_def,updo.eq_def,hupo.eq_def,opSto1.eq_def,List.take_succ_cons,List.take_zero,k1,k2]; rfl)
   refine .f o1 hb46 ?_ (ha:=by simp (disch:=first|omega|(simp only[ln];omega)) [idf_Wd',k1,k2])
   refine .k 1 (fun fs7 hfs7=>?_) (by simp (disch:=first|omega|(simp only[ln];omega)) [runDf.eq_def,runF1,runF2,stepF.eq_def,updo.eq_def,hupo.eq_def,opSto1.eq_def,List.take_succ_cons,List.take_zero,k1,k2]; rfl)
   refine .f c1 hb123 ?_ (ha:=by simp (disch:=first|omega|(simp only[ln];omega)) [idf_Wd',k1,k2])
   refine .k 5 (fun fs8 hfs8=>?_) (by simp (disch:=first|omega|(simp only[ln];omega)) [runDf.eq_def,runF1,runF2,stepF.eq_def,updo.eq_def,hupo.eq_def,opSto1.eq_def,List.take_succ_cons,List.take_zero,k1,k2]; rfl)
   refine .f o2 hb46 ?_ (ha:=by simp (disch:=first|omega|(simp only[ln];omega)) [idf_Wd',k1,k2])
   refine .f c2 hb123 ?_ (ha:=by simp (disch:=first|omega|(simp only[ln];omega)) [idf_Wd',k1,k2])
   refine .k 8 (fun fs9 hfs9=>?_) (by simp (disch:=first|omega|(simp only[ln];omega)) [runDf.eq_def,runF1,runF2,stepF.eq_def,updo.eq_def,hupo.eq_def,opSto1.eq_def,List.take_succ_cons,List.take_zero,k1,k2]; rfl)
   refine .r 20 (by simp only[ln,hfs6,hfs7,hfs8,hfs9];omega) ?_ (by simp (disch:=first|omega|(simp only[ln];omega)) [runDf.eq_def,runF1,runF2,stepF.eq_def,updo.eq_def,hupo.eq_def,opSto1.eq_def,k1,k2]; rfl)
   refine hK2 _ ?_
   refine .ret ?_
   exact hK _ _ _ _ trivial ((Fin.m).cast (by unfold onF; rw [k1,k2]; rfl))
  ·refine .d 20 ?_
   refine .k 2 (fun fs10 hfs10=>?_) (by simp (disch:=first|omega|(simp only[ln];omega)) [runDf.eq_def,runF1,runF2,stepF.eq_def,updo.eq_def,hupo.eq_def,opSto1.eq_def,List.take_succ_cons,List.take_zero,k1,k2]; rfl)
   refine .f o1 hb46 ?_ (ha:=by simp (disch:=first|omega|(simp only[ln];omega)) [idf_Wd',k1,k2])
   refine .k 1 (fun fs11 hfs11=>?_) (by simp (disch:=first|omega|(simp only[ln];omega)) [runDf.eq_def,runF1,runF2,stepF.eq_def,updo.eq_def,hupo.eq_def,opSto1.eq_def,List.take_succ_cons,List.take_zero,k1,k2]; rfl)
   refine .f c1 hb123 ?_ (ha:=by simp (disch:=first|omega|(simp only[ln];omega)) [idf_Wd',k1,k2])
   refine .k 5 (fun fs12 hfs12=>?_) (by simp (disch:=first|omega|(simp only[ln];omega)) [runDf.eq_def,runF1,runF2,stepF.eq_def,updo.eq_def,hupo.eq_def,opSto1.eq_def,List.take_succ_cons,List.take_zero,k1,k2]; rfl)
   refine .f o2 hb46 ?_ (ha:=by simp (disch:=first|omega|(simp only[ln];omega)) [idf_Wd',k1,k2])
   refine .f c2 hb123 ?_ (ha:=by simp (disch:=first|omega|(simp only[ln];omega)) [idf_Wd',k1,k2])
   refine .k 5 (fun fs13 hfs13=>?_) (by simp (disch:=first|omega|(simp only[ln];omega)) [runDf.eq_def,runF1,runF2,stepF.eq_def,updo.eq_def,hupo.eq_def,opSto1.eq_def,List.take_succ_cons,List.take_zero,k1,k2]; rfl)
   refine .f (sideOfI_fc s p gs hp) hb96 ?_ (ha:=by simp (disch:=first|omega|(simp only[ln];omega)) [idf_Wd',k1,k2])
   refine .k 2 (fun fs14 hfs14=>?_) (by simp (disch:=first|omega|(simp only[ln];omega)) [runDf.eq_def,runF1,runF2,stepF.eq_def,updo.eq_def,hupo.eq_def,opSto1.eq_def,List.take_succ_cons,List.take_zero,k1,k2]; rfl)
   refine .r 20 (by simp only[ln,hfs10,hfs11,hfs12,hfs13,hfs14];omega) ?_ (by simp (disch:=first|omega|(simp only[ln];omega)) [runDf.eq_def,runF1,runF2,stepF.eq_def,updo.eq_def,hupo.eq_def,opSto1.eq_def,k1,k2]; rfl)
   refine hK2 _ ?_
   refine .ret ?_
   exact hK _ _ _ _ trivial ((Fin.mk (r:=.bool (sdF s p == 0)) (by simp [aRes,aResL,aRes1]; try rfl)).cast (by unfold onF; rw [k1,k2]; rfl))
set_option maxHeartbeats 2000000 in
theorem onSegF_fc (s : Sg) (p : Pt) (hp : p.ok) : FC Tryz.prog 45 [s.av,p.av] (.bool (onSF s p)):=by
 refine .b Tryz.func45 16 (fun nx K hK=>?_) (hi:=by simp [idfL,idf,Sp.av,Sp.cells,Sg.av,Sg.cells,Pt.av,Pt.cells])
 refine .q ?_
 refine .sq fun K2 hK2=>?_
 cases gs : s.good
 ·refine .region ?_
  refine .kf 1 (segOkI_fc s) hb95 ?_ (by simp (disch:=first|omega|(simp only[ln];omega)) [List.take_succ_cons,List.take_zero,gs]; rfl) (ha:=by simp (disch:=first|omega|(simp only[ln];omega)) [idf_Wd',gs])
  refine .e ?_ (by simp (disch:=first|omega|(simp only[ln];omega)) [gs]; rfl)
  refine hK2 _ ?_
  refine .ret ?_
  exact hK _ _ _ _ trivial ((Fin.m).cast (by unfold onSF; rw [gs]; rfl))
 ·cases gp : p.good
  ·refine .region ?_
   refine .kf 1 (segOkI_fc s) hb95 ?_ (by simp (disch:=first|omega|(simp only[ln];omega)) [List.take_succ_cons,List.take_zero,gs,gp]; rfl) (ha:=by simp (disch:=first|omega|(simp only[ln];omega)) [idf_Wd',gs,gp])
   refine .kf 2 (pointOkI_fc p hp) hb76 ?_ (by simp (disch:=first|omega|(simp only[ln];omega)) [List.take_succ_cons,List.take_zero,gs,gp]; rfl) (ha:=by simp (disch:=first|omega|(simp only[ln];omega)) [idf_Wd',gs,gp])
   refine .e ?_ (by simp (disch:=first|omega|(simp only[ln];omega)) [gs,gp]; rfl)
   refine hK2 _ ?_
   refine .ret ?_
   exact hK _ _ _ _ trivial ((Fin.m).cast (by unfold onSF; rw [gs,gp]; rfl))
  ·refine .region ?_
   refine .kf 1 (segOkI_fc s) hb95 ?_ (by simp (disch:=first|omega|(simp only[ln];omega)) [List.take_succ_cons,List.take_zero,gs,gp]; rfl) (ha:=by simp (disch:=first|omega|(simp only[ln];omega)) [idf_Wd',gs,gp])
   refine .kf 2 (pointOkI_fc p hp) hb76 ?_ (by simp (disch:=first|omega|(simp only[ln];omega)) [List.take_succ_cons,List.take_zero,gs,gp]; rfl) (ha:=by simp (disch:=first|omega|(simp only[ln];omega)) [idf_Wd',gs,gp])
   refine .kf 4 (onSegI_fc s p gs hp) hb138 ?_ (by simp (disch:=first|omega|(simp only[ln];omega)) [List.take_succ_cons,List.take_zero,gs,gp]; rfl) (ha:=by simp (disch:=first|omega|(simp only[ln];omega)) [idf_Wd',gs,gp])
   refine .e ?_ (by simp (disch:=first|omega|(simp only[ln];omega)) [gs,gp]; rfl)
   refine hK2 _ ?_
   refine .ret ?_
   exact hK _ _ _ _ trivial ((Fin.m).cast (by unfold onSF; rw [gs,gp]; rfl))
end
section
attribute [local simp] idf_numS cells_numS numS_fold idf_numI cells_numI numI_fold Sp.av Sp.cells Sg.av Sg.cells Pt.av Pt.cells spA spC numC
end

end Go.Proofs.YtaibemhdfhchfaaGreat

/- Walks: on which side of a ring a point is; FnExactRingIn, walked. -/
namespace Go.Proofs.YtaibemhdfhchfaaGreat
open Go Go.RowKit
set_option linter.unusedSimpArgs false
set_option linter.unusedVariables false
set_option maxRecDepth 100000
attribute [local simp] szT2 byT2 agT2 unT2 zoT2 szT3 byT3 agT3 unT3 zoT3 szT27 byT27 agT27 flT27 fdT27_0 fdT27_1 fdT27_2 fdT27_3 zoT27 szT29 byT29 agT29 flT29 fdT29_0 fdT29_1 fdT29_2 zoT29 szT38 byT38 agT38 flT38 fdT38_0 fdT38_1 zoT38 szT40 byT40 agT40 flT40 fdT40_0 fdT40_1 zoT40 szT41 byT41 agT41 elT41 unT41 zoT41 szT43 byT43 agT43 flT43 fdT43_0 zoT43 szT127 byT127 agT127 flT127 fdT127_0 fdT127_1 zoT127 szT129 byT129 agT129 flT129 fdT129_0 fdT129_1 fdT129_2 zoT129

section
attribute [local simp] Sp.av Sp.cells Sg.av Sg.cells Pt.av Pt.cells
end
section
attribute [local simp] idf_numS cells_numS numS_fold idf_numI cells_numI numI_fold Sp.av Sp.cells Sg.av Sg.cells Pt.av Pt.cells l3A l3C
set_option maxHeartbeats 1000000 in
theorem l4On_fc (a b : Sp) (ga : a.good = true) (gb : b.good = true) (p : Pt) (hp : p.ok) : FC Tryz.prog 199 [.agg [.int .i64 a.x,.int .i64 a.y,.int .i64 b.x,.int .i64 b.y],l3A p.x.v p.y.v p.w.v] (.bool (btS (ptS a) (ptS b) p)):=by
 obtain ⟨a1,a2,a3⟩:=ptS_v ga
 obtain ⟨b1,b2,b3⟩:=ptS_v gb
 have ba:=Sp.b ga
 have bb:=Sp.b gb
 have sa:=l3Spot_fc a.x a.y (by omega) (by omega) (by omega) (by omega)
 have sb:=l3Spot_fc b.x b.y (by omega) (by omega) (by omega) (by omega)
 have k:=l3Between_fc (ptS a) (ptS b) p (pt3_ok _ _ _) (pt3_ok _ _ _) hp
 rw [a1,a2,a3,b1,b2,b3] at k
 refine .b Tryz.func199 13 (fun nx K hK=>?_) (hi:=by simp [idfL,idf,l3A,l3C,idf_Wd'])
 refine .q ?_
 refine .sq fun K2 hK2=>?_
 refine .d 8 ?_
 refine .k 2 (fun fs3 hfs3=>?_)
 refine .f sa hb93 ?_
 refine .k 2 (fun fs4 hfs4=>?_)
 refine .f sb hb93 ?_
 refine .k 1 (fun fs5 hfs5=>?_)
 refine .f k hb254 ?_
 refine .r 8 (by simp only[ln,hfs3,hfs4,hfs5];omega) ?_
 refine hK2 _ ?_
 refine .ret ?_
 exact hK _ _ _ _ trivial (Fin.m)
end

end Go.Proofs.YtaibemhdfhchfaaGreat

/- Walks: rows of segments in order. -/
namespace Go.Proofs.YtaibemhdfhchfaaGreat
open Go Go.RowKit
set_option linter.unusedSimpArgs false
set_option linter.unusedVariables false
set_option maxRecDepth 100000
attribute [local simp] szT3 byT3 agT3 unT3 zoT3 szT24 byT24 agT24 elT24 unT24 zoT24 szT38 byT38 agT38 flT38 fdT38_0 fdT38_1 zoT38 szT40 byT40 agT40 flT40 fdT40_0 fdT40_1 zoT40 szT204 byT204 agT204 unT204 zoT204 szT313 byT313 agT313 unT313 zoT313

theorem bitsLen_fc (x : Nat) (hx : x < 18446744073709551616) : FC Tryz.prog 209 [.int .u64 (x : Int)] (.int .i64 (bitLen x : Int)):=by
 refine .b Tryz.func209 8 (fun nx K hK=>?_)
 refine .q ?_
 refine .sq fun K2 hK2=>?_
 refine .c (t:=false) (fun h0=>?_) (fun h0=>?_)
 ·simp at h0
 ·
  refine .skip ?_
  refine hK2 _ ?_
  refine .sq fun K3 hK3=>?_
  refine .region ?_
  refine .kf 1 (len64_fc x hx) hb267 ?_
  refine .e ?_
  refine hK3 _ ?_
  refine .ret ?_
  exact hK _ _ _ _ trivial (Fin.m)
theorem nextPow_fc (l m : Nat) (h0 : 0 < l) (hl : l ≤ 1099511627776) (hm : m = 1 <<< Sort.bitsLen l) : FC Tryz.prog 292 [.int .i64 (l : Int)] (.int .u64 (m : Int)):=by
 obtain ⟨q1,q2,q3⟩:=pow_bits h0 hl
 have e1 : min (Sort.bitsLen l) 64 = Sort.bitsLen l:=Nat.min_eq_left (by omega)
 rw [← hm] at q1 q2
 have e2 : (2 : Int) ^ Sort.bitsLen l = (m : Int):=by rw [hm,Nat.one_shiftLeft,Int.natCast_pow]; rfl
 refine .b Tryz.func292 7 (fun nx K hK=>?_)
 refine .q ?_
 refine .sq fun K2 hK2=>?_
 refine .region ?_
 refine .kf 2 (bitsLen_fc l (by omega)) hb209 ?_ (by simp (disch:=first|omega|(simp only[ln];omega)) [List.take_succ_cons,List.take_zero,bitLen_bits,e1,e2,IntKind.bits]; rfl) (ha:=by simp (disch:=first|omega|(simp only[ln];omega)) [idf_Wd',bitLen_bits,e1,e2,IntKind.bits])
 refine .e ?_ (by simp (disch:=first|omega|(simp only[ln];omega)) [bitLen_bits,e1,e2,IntKind.bits]; rfl)
 refine hK2 _ ?_
 refine .ret ?_
 exact hK _ _ _ _ trivial (Fin.m)
section
attribute [local simp] runDf.eq_def runF1 runF2 stepF.eq_def updo.eq_def hupo.eq_def opSto1.eq_def runQ runT qOk.eq_def qnone asksB.eq_def topId.eq_def Op.operands List.take_succ_cons List.take_zero List.drop_succ_cons List.drop_zero
set_option maxHeartbeats 4000000 in
theorem xnext_ac (r : UInt64) (sid : Nat) (HP : Heap) (nx : Nat) (hS : HP sid = some (1,wd .u64 [(r.toNat : Int)])) (hsid : sid < nx) : ACall Tryz.prog 293 [.ptr sid 0 0] HP nx (fun v H' nx'=>v = .int .u64 ((Sort.xorNext r).toNat : Int) ∧ H' = hupd HP sid (some (1,wd .u64 [((Sort.xorNext r).toNat : Int)])) ∧ nx ≤ nx'):=by
 refine .b Tryz.func293 33 fun K hK=>?_
 refine .q ?_
 refine .sq fun K2 hK2=>?_
 refine .df 9 ?_ (by simp (disch:=first|omega|(simp only[ln];omega)) [hS,hsid]; rfl)
 refine hK2 _ ?_
 refine .sq fun K3 hK3=>?_
 refine .df 9 ?_ (by simp (disch:=first|omega|(simp only[ln];omega)) [hS,hsid]; rfl)
 refine hK3 _ ?_
 refine .sq fun K4 hK4=>?_
 refine .df 9 ?_ (by simp (disch:=first|omega|(simp only[ln];omega)) [hS,hsid]; rfl)
 refine hK4 _ ?_
 refine .q ?_ (by simp (disch:=first|omega|(simp only[ln];omega)) [hS]; rfl)
 refine .ret ?_
 exact hK _ _ _ _ _ trivial (Fin.m) (⟨by simp only [gt_one,xs_13,xs_7,xs_17,xs_xor]; rfl,by simp only [hupd_same,gt_one,xs_13,xs_7,xs_17,xs_xor]; rfl,by simp; omega⟩)
end
section
attribute [local simp] runDf.eq_def runF1 runF2 stepF.eq_def updo.eq_def hupo.eq_def opSto1.eq_def runQ runT qOk.eq_def qnone asksB.eq_def topId.eq_def Op.operands List.take_succ_cons List.take_zero List.drop_succ_cons List.drop_zero Sg.cells
end

end Go.Proofs.YtaibemhdfhchfaaGreat

/- Walks: drawn segments in a row. -/
namespace Go.Proofs.YtaibemhdfhchfaaGreat
open Go Go.RowKit
set_option linter.unusedSimpArgs false
set_option linter.unusedVariables false
set_option maxRecDepth 100000
attribute [local simp] szT2 byT2 agT2 unT2 zoT2 szT3 byT3 agT3 unT3 zoT3 szT24 byT24 agT24 elT24 unT24 zoT24 szT38 byT38 agT38 flT38 fdT38_0 fdT38_1 zoT38 szT40 byT40 agT40 flT40 fdT40_0 fdT40_1 zoT40

theorem hrestr_orS {H G : Heap} {nx i2 : Nat} {x : Option (Nat × List (List AV))} (h : hrestr (fun i=>decide (i < nx)) H = G) (h2 : H i2 = x) (hn : nx ≤ i2) : hrestr (fun i=>decide (i < nx) || decide (i = i2)) H = hupd G i2 x:=by
  funext i
  have hi:=congrFun h i
  simp only [hrestr,hupd] at *
  by_cases e : i = i2
  · subst e; simp [h2]
  · simpa [e] using hi
def pM (i : Nat) : Int:=10 * 4 ^ i
theorem pM_succ (i : Nat) : pM (i + 1) = 4 * pM i:=by unfold pM; rw [Int.pow_succ]; omega
theorem pM_b {i : Nat} (h : i ≤ 6) : 10 ≤ pM i ∧ pM i ≤ 40960:=by
  rcases (by omega : i = 0 ∨ i = 1 ∨ i = 2 ∨ i = 3 ∨ i = 4 ∨ i = 5 ∨ i = 6) with h | h | h | h | h | h | h <;> subst h <;> decide
def bP (M : Int) (p : Sp) : Prop:=-M ≤ p.x ∧ p.x ≤ M ∧ -M ≤ p.y ∧ p.y ≤ M
theorem bP_mono {M N : Int} {p : Sp} (h : bP M p) (hm : M ≤ N) : bP N p:=by unfold bP at *; omega
theorem bP_seg {M : Int} {a b : Sp} (h0 : 0 ≤ M) (ha : bP M a) (hb : bP M b) : bP M (segS a b).1.a ∧ bP M (segS a b).1.b:=by
  unfold segS; split
  · unfold segO; split
    · exact ⟨hb,ha⟩
    · exact ⟨ha,hb⟩
  · unfold sgZ bP; simp; omega
theorem bP_ok {M : Int} {p : Sp} (h : bP M p) (hm : M ≤ 163840) : Sp.ok p:=by unfold bP at h; unfold Sp.ok I64; omega
theorem sok_set {S : List Sg} (h : ∀ p ∈ S,Sg.ok p) {i : Nat} {p : Sg} (hp : Sg.ok p) : ∀ q ∈ S.set i p,Sg.ok q:=fun q hq=>by
  rcases List.mem_or_eq_of_mem_set hq with h1 | rfl
  · exact h _ h1
  · exact hp

section
attribute [local simp] idf_numS cells_numS numS_fold idf_numI cells_numI numI_fold
set_option maxHeartbeats 1000000 in
theorem below1_ac (id : Nat) (H : Heap) (nx : Nat) : ACall Tryz.prog 100 [.ptr id 0 0,.int .i64 1] H nx (fun r H' nx'=>r = .int .i64 0 ∧ H' = H ∧ nx ≤ nx'):=by
 refine .b Tryz.func100 24 fun K hK=>?_
 refine .q ?_
 refine .sq fun K2 hK2=>?_
 refine .q ?_
 refine .c (t:=true) (fun h7=>?_) (fun h7=>?_)
 ·try simp only[dc]at h7
  refine .q ?_
  refine .ret ?_
  exact hK _ _ _ _ _ trivial (Fin.mk (r:=.int .i64 0) (by simp [aRes,aResL,aRes1])) (⟨rfl,rfl,by simp⟩)
 ·simp at h7
end
section
attribute [local simp] idf_numS cells_numS numS_fold idf_numI cells_numI numI_fold Sp.av Sp.cells Sg.av Sg.cells
set_option maxHeartbeats 8000000 in
theorem segs_ac (l : List Int) (p id : Nat) (H0 : Heap) (nx : Nat) (dl : Dig 256 l) (hl : l.length ≤ 1048576) (hp : p ≤ l.length) (hH : H0 id = some (2,[[Wd .u8 l,.int .i64 (p : Int)]])) (hd : ∀ i q,H0 i = some q → i < nx) : ACall Tryz.prog 73 [.ptr id 0 0,.int .i64 6] H0 nx (fun r H' nx'=>∃ (S : List Sg) (i2 q : Nat),r = .osl i2 0 S.length ∧ (∀ s ∈ S,Sg.ok s) ∧ S.length ≤ 6 ∧ q ≤ l.length ∧ H' = hupd (hupd H0 id (some (2,[[Wd .u8 l,.int .i64 (q : Int)]]))) i2 (some (4,S.map Sg.cells)) ∧ nx ≤ i2 ∧ i2 < nx'):=by
 have hid:=hd id _ hH
 refine .b Tryz.func73 114 fun K hK=>?_
 refine .q ?_
 refine .q ?_
 refine .sq fun K3 hK3=>?_
 refine .region ?_
 refine .k 3 ?_ (by simp (disch:=first|omega|(simp only[ln];omega)) [List.take_succ_cons,List.take_zero,hH]; rfl)
 refine AOPS.old fun hold3=>?_
 refine .a (below_ac 7 (by omega) (by omega) l p id _ _ dl hl hp (by simp (disch:=omega) [hH]) hold3) hb100 ?_ (ha:=by simp (disch:=first|omega|(simp only[ln];omega)) [idf_Wd',hH])
 rintro _ _ nx2 ⟨⟨k7,rfl,k70,k71⟩,⟨p2,hp2,rfl⟩,hnx2⟩
 try simp only [] at hnx2
 clear hold3
 obtain ⟨n,rfl⟩:=Int.eq_ofNat_of_zero_le k70
 have hn6 : n ≤ 6:=by omega
 refine .e ?_ (by simp (disch:=first|omega|(simp only[ln];omega)) [hH]; rfl)
 refine hK3 _ ?_
 refine .sq fun K4 hK4=>?_
 refine .q ?_
 refine .block ?_
 
 refine .loop (fun N s=>∃ i : Nat,∃ q : Nat,∃ i2 : Nat,∃ S : List Sg,N = n - i ∧ i ≤ n ∧ (q ≤ l.length) ∧ (S.length = i) ∧ (∀ s ∈ S,bP (pM i) s.a ∧ bP (pM i) s.b) ∧ (nx ≤ i2) ∧ (hrestr (fun i=>decide (i < nx)) s.heap = hupd H0 id (some (2,[[Wd .u8 l,.int .i64 (q : Int)]]))) ∧ s.env 0 = .ptr id 0 0 ∧ s.env 5 = .osl i2 0 i ∧ s.env 6 = .int .i64 (n : Int) ∧ s.env 7 = .int .i64 (i : Int) ∧ s.heap id = some (2,[[Wd .u8 l,.int .i64 (q : Int)]]) ∧ id < s.nx ∧ s.heap i2 = some (4,S.map Sg.cells) ∧ i2 < s.nx ∧ s.nt = 114) (n) (by refine ⟨0,p2,nx,[],by omega,by omega,hp2,rfl,fun s h=>by simp at h,Nat.le_refl _,by simp (disch:=first | omega | (simp; done) | (simp; omega)) [hrestr_in,hrestr_out,hrestr_all hd,hupd_same],?_,?_,?_,?_,?_,?_,?_,?_,rfl⟩ <;> first|(simp (disch:=omega) [hH];done)|omega|(simp;done)|(simp;omega)) ?_
 rintro N ⟨e,H,mm,nt⟩ ⟨i,q,i2,S,rfl,hi,hq,hSl,hSo,hi2,hrs,g0,g5,g6,g7,Hr,xr,Ho,xo,rfl⟩
 simp only [] at g0 g5 g6 g7 Hr xr Ho xo
 simp only [] at hrs
 refine .sq fun K6 hK6=>?_
 refine .q ?_ (by simp (disch:=first|omega|(simp only[ln];omega)) [g6,g7]; rfl)
 refine .c (fun h19=>?_) (fun h19=>?_)
 ·try simp only[dc]at h19
  have hi' : i < n:=by omega
  obtain ⟨hM1,hM2⟩:=pM_b (show i ≤ 6 by omega)
  obtain ⟨M,hM⟩ : ∃ M,M = pM i:=⟨_,rfl⟩
  rw [← hM] at hM1 hM2
  refine .skip ?_
  refine hK6 _ ?_
  refine .sq fun K8 hK8=>?_
  refine .block ?_
  refine .sq fun K9 hK9=>?_
  refine .region ?_
  refine .k 1 ?_ (by simp (disch:=first|omega|(simp only[ln];omega)) [List.take_succ_cons,List.take_zero,g0]; rfl)
  refine AOPS.old fun hold1=>?_
  refine .a (spot_ac l q id _ _ dl hl hq (by simp (disch:=omega) [Hr]) hold1) hb155 ?_ (ha:=by simp (disch:=first|omega|(simp only[ln];omega)) [idf_Wd',g0])
  rintro _ _ nx2 ⟨⟨ax,ay,rfl,ax0,ax1,ay0,ay1⟩,⟨q2,hq2,rfl⟩,hnx2⟩
  try simp only [] at hnx2
  clear hold1
  refine .e ?_ (by simp (disch:=first|omega|(simp only[ln];omega)) [g0]; rfl)
  refine hK9 _ ?_
  refine .sq fun K10 hK10=>?_
  refine .region ?_
  refine .k 1 ?_ (by simp (disch:=first|omega|(simp only[ln];omega)) [List.take_succ_cons,List.take_zero,g0]; rfl)
  refine AOPS.old fun hold1=>?_
  refine .a (spot_ac l q2 id _ _ dl hl hq2 (by simp (disch:=omega) [Hr]) hold1) hb155 ?_ (ha:=by simp (disch:=first|omega|(simp only[ln];omega)) [idf_Wd',g0])
  rintro _ _ nx3 ⟨⟨dx,dy,rfl,dx0,dx1,dy0,dy1⟩,⟨q3,hq3,rfl⟩,hnx3⟩
  try simp only [] at hnx3
  clear hold1
  refine .e ?_ (by simp (disch:=first|omega|(simp only[ln];omega)) [g0]; rfl)
  refine hK10 _ ?_
  refine .sq fun K11 hK11=>?_
  have J11 : ∀ s : St,(∃ q : Nat,∃ ia : Nat,∃ ib : Nat,∃ a : Sp,∃ b : Sp,(q ≤ l.length) ∧ (i2 < ia ∧ ia < ib) ∧ (bP (M) a) ∧ (bP (M) b) ∧ (hrestr (fun i=>decide (i < nx)) s.heap = hupd H0 id (some (2,[[Wd .u8 l,.int .i64 (q : Int)]]))) ∧ s.env 0 = .ptr id 0 0 ∧ s.env 5 = .osl i2 0 i ∧ s.env 6 = .int .i64 (n : Int) ∧ s.env 7 = .int .i64 (i : Int) ∧ s.env 8 = .ptr ia 0 0 ∧ s.env 9 = .ptr ib 0 0 ∧ s.heap id = some (2,[[Wd .u8 l,.int .i64 (q : Int)]]) ∧ id < s.nx ∧ s.heap i2 = some (4,S.map Sg.cells) ∧ i2 < s.nx ∧ s.heap ia = some (2,[Sp.cells a]) ∧ ia < s.nx ∧ s.heap ib = some (2,[Sp.cells b]) ∧ ib < s.nx ∧ s.nt = 114) → K11 s:=by
   rintro ⟨e,H,mm,nt⟩ ⟨q,ia,ib,a,b,hq,hab,ha,hb,hrs,g0v,g5v,g6v,g7v,g8v,g9v,Hrv,xrv,Hov,xov,Hav,xav,Hbv,xbv,rfl⟩
   simp only [] at g0v g5v g6v g7v g8v g9v Hrv xrv Hov xov Hav xav Hbv xbv
   simp only [] at hrs
   obtain ⟨hab1,hab2⟩:=hab
   have hab : i2 < ia ∧ ia < ib:=⟨hab1,hab2⟩
   refine hK11 _ ?_
   refine .sq fun K12 hK12=>?_
   have J12 : ∀ s : St,(∃ q : Nat,∃ ia : Nat,∃ ib : Nat,∃ a : Sp,∃ b : Sp,(q ≤ l.length) ∧ (i2 < ia ∧ ia < ib) ∧ (bP (3 * M) a) ∧ (bP (3 * M) b) ∧ (hrestr (fun i=>decide (i < nx)) s.heap = hupd H0 id (some (2,[[Wd .u8 l,.int .i64 (q : Int)]]))) ∧ s.env 0 = .ptr id 0 0 ∧ s.env 5 = .osl i2 0 i ∧ s.env 6 = .int .i64 (n : Int) ∧ s.env 7 = .int .i64 (i : Int) ∧ s.env 8 = .ptr ia 0 0 ∧ s.env 9 = .ptr ib 0 0 ∧ s.heap id = some (2,[[Wd .u8 l,.int .i64 (q : Int)]]) ∧ id < s.nx ∧ s.heap i2 = some (4,S.map Sg.cells) ∧ i2 < s.nx ∧ s.heap ia = some (2,[Sp.cells a]) ∧ ia < s.nx ∧ s.heap ib = some (2,[Sp.cells b]) ∧ ib < s.nx ∧ s.nt = 114) → K12 s:=by
    rintro ⟨e,H,mm,nt⟩ ⟨q,ia,ib,a,b,hq,hab,ha,hb,hrs,g0y,g5y,g6y,g7y,g8y,g9y,Hry,xry,Hoy,xoy,Hay,xay,Hby,xby,rfl⟩
    simp only [] at g0y g5y g6y g7y g8y g9y Hry xry Hoy xoy Hay xay Hby xby
    simp only [] at hrs
    obtain ⟨hab1,hab2⟩:=hab
    have hab : i2 < ia ∧ ia < ib:=⟨hab1,hab2⟩
    refine hK12 _ ?_
    refine .sq fun K13 hK13=>?_
    have J13 : ∀ s : St,(∃ q : Nat,∃ ia : Nat,∃ ib : Nat,∃ a : Sp,∃ b : Sp,(q ≤ l.length) ∧ (i2 < ia ∧ ia < ib) ∧ (bP (3 * M + 1) a) ∧ (bP (3 * M + 1) b) ∧ (hrestr (fun i=>decide (i < nx)) s.heap = hupd H0 id (some (2,[[Wd .u8 l,.int .i64 (q : Int)]]))) ∧ s.env 0 = .ptr id 0 0 ∧ s.env 5 = .osl i2 0 i ∧ s.env 6 = .int .i64 (n : Int) ∧ s.env 7 = .int .i64 (i : Int) ∧ s.env 8 = .ptr ia 0 0 ∧ s.env 9 = .ptr ib 0 0 ∧ s.heap id = some (2,[[Wd .u8 l,.int .i64 (q : Int)]]) ∧ id < s.nx ∧ s.heap i2 = some (4,S.map Sg.cells) ∧ i2 < s.nx ∧ s.heap ia = some (2,[Sp.cells a]) ∧ ia < s.nx ∧ s.heap ib = some (2,[Sp.cells b]) ∧ ib < s.nx ∧ s.nt = 114) → K13 s:=by
     rintro ⟨e,H,mm,nt⟩ ⟨q,ia,ib,a,b,hq,hab,ha,hb,hrs,g0z,g5z,g6z,g7z,g8z,g9z,Hrz,xrz,Hoz,xoz,Haz,xaz,Hbz,xbz,rfl⟩
     simp only [] at g0z g5z g6z g7z g8z g9z Hrz xrz Hoz xoz Haz xaz Hbz xbz
     simp only [] at hrs
     obtain ⟨hab1,hab2⟩:=hab
     have hab : i2 < ia ∧ ia < ib:=⟨hab1,hab2⟩
     refine hK13 _ ?_
     refine .sq fun K14 hK14=>?_
     have sgc:=segOfS_fc a b
     obtain ⟨G,hG⟩ : ∃ G,G = segS a b:=⟨_,rfl⟩
     have hGb:=bP_seg (M:=4 * M) (by omega) (bP_mono ha (by omega)) (bP_mono hb (by omega))
     rw [← hG] at sgc hGb
     have hSn : ∀ s ∈ S ++ [G.1],bP (pM (i + 1)) s.a ∧ bP (pM (i + 1)) s.b:=by
       intro s hs
       rw [pM_succ,← hM]
       rcases List.mem_append.1 hs with h | h
       · have:=hSo s h; rw [← hM] at this; exact ⟨bP_mono this.1 (by omega),bP_mono this.2 (by omega)⟩
       · rw [List.mem_singleton.1 h]; exact hGb
     have htk : List.take i (S.map Sg.cells) = S.map Sg.cells:=List.take_of_length_le (by rw [List.length_map]; omega)
     have hc1 : (i + 1) * 32 ≤ 140737488355328:=by omega
     have hc2 : i ≤ 9223372036854775806:=by omega
     refine .region ?_
     refine .kf 2 sgc hb156 ?_ (by simp (disch:=first|omega|(simp only[ln];omega)) [List.take_succ_cons,List.take_zero,g0z,g5z,g6z,g7z,g8z,g9z,Hrz,Hoz,Haz,Hbz,Sp.cells]; rfl) (ha:=by simp (disch:=first|omega|(simp only[ln];omega)) [idf_Wd',g0z,g5z,g6z,g7z,g8z,g9z,Hrz,Hoz,Haz,Hbz,Sp.cells])
     refine .e ?_ (by simp (disch:=first|omega|(simp only[ln];omega)) [g0z,g5z,g6z,g7z,g8z,g9z,Hrz,Hoz,Haz,Hbz,Sp.cells]; rfl)
     refine hK14 _ ?_
     refine .region ?_
     refine .k 3 ?_ (by simp (disch:=first|omega|(simp only[ln];omega)) [List.take_succ_cons,List.take_zero,g0z,g5z,g6z,g7z,g8z,g9z,Hrz,Hoz,Haz,Hbz]; rfl)
     refine AOPS.opapp (by simp (disch:=first|omega|(simp only[ln];omega)) [opApp.eq_def,aSrc_isl,aSrc_osl,aSrc_nsl,aSrc_int,wd_app,wd_app2,if_pos,wd_append,wd_take,wd_drop,List.nil_append,hSl,htk,hc1,hc2,List.length_map,g0z,g5z,g6z,g7z,g8z,g9z,Hrz,Hoz,Haz,Hbz,src_Wd' (P:=Tryz.prog) elT24]; first | rfl | exact ⟨rfl,rfl⟩ | exact ⟨rfl,rfl,rfl⟩) (by simp) (by simp) ?_
     simp only [puts_some,hdrop]
     refine .e ?_ (by simp (disch:=first|omega|(simp only[ln];omega)) [g0z,g5z,g6z,g7z,g8z,g9z,Hrz,Hoz,Haz,Hbz]; rfl)
     refine hK8 _ ?_
     refine .r ?_ (by simp (disch:=first|omega|(simp only[ln];omega)) [g7z]; rfl)
     refine ⟨n - (i + 1),by omega,i + 1,q,(mm + 1 + 1),(S ++ [G.1]),rfl,by omega,hq,by simp [hSl],hSn,by omega,by simp (disch:=first | omega | (simp; done) | (simp; omega)) [hrestr_in,hrestr_out,hrs,hupd_same],?_,?_,?_,?_,?_,?_,?_,?_,rfl⟩ <;> first|(simp (disch:=omega) [g0z,g5z,g6z,g7z,g8z,g9z,Hrz,Hoz,Haz,Hbz,Sg.cells,List.map_append,htk];done)|omega|(simp;done)|(simp;omega)
    refine .q ?_ (by simp (disch:=first|omega|(simp only[ln];omega)) [g0y,g5y,g6y,g7y,g8y,g9y,Hry,Hoy,Hay,Hby,eqW2,Sp.cells]; rfl)
    refine .c (t:=decide (a = b)) (fun h85=>?_) (fun h85=>?_)
    ·try simp only[dc]at h85
     obtain ⟨b1,b2,b3,b4⟩:=hb
     refine .r ?_ (by simp (disch:=first|omega|(simp only[ln];omega)) [g0y,g5y,g6y,g7y,g8y,g9y,Hry,Hoy,Hay,Hby,Sp.cells]; rfl)
     refine J13 _ ?_
     refine ⟨q,ia,ib,a,⟨b.x,b.y + 1⟩,hq,by omega,bP_mono ha (by omega),by unfold bP; simp only []; omega,by simp (disch:=first | omega | (simp; done) | (simp; omega)) [hrestr_in,hrestr_out,hrs,hupd_same],?_,?_,?_,?_,?_,?_,?_,?_,?_,?_,?_,?_,?_,?_,rfl⟩ <;> first|(simp (disch:=omega) [g0y,g5y,g6y,g7y,g8y,g9y,Hry,Hoy,Hay,Hby,Sp.cells,Sg.cells];done)|omega|(simp;done)|(simp;omega)
    ·try simp only[dc]at h85
     refine .skip ?_
     refine J13 _ ?_
     refine ⟨q,ia,ib,a,b,hq,by omega,bP_mono ha (by omega),bP_mono hb (by omega),by simp (disch:=first | omega | (simp; done) | (simp; omega)) [hrestr_in,hrestr_out,hrs,hupd_same],?_,?_,?_,?_,?_,?_,?_,?_,?_,?_,?_,?_,?_,?_,rfl⟩ <;> first|(simp (disch:=omega) [g0y,g5y,g6y,g7y,g8y,g9y,Hry,Hoy,Hay,Hby,Sp.cells,Sg.cells];done)|omega|(simp;done)|(simp;omega)
   refine .sq fun K16 hK16=>?_
   have J16 : ∀ s : St,(∃ q : Nat,∃ ia : Nat,∃ ib : Nat,∃ a : Sp,∃ b : Sp,∃ c : Bool,(q ≤ l.length) ∧ (i2 < ia ∧ ia < ib) ∧ (bP (M) a) ∧ (bP (M) b) ∧ (hrestr (fun i=>decide (i < nx)) s.heap = hupd H0 id (some (2,[[Wd .u8 l,.int .i64 (q : Int)]]))) ∧ (c = true → 0 < i) ∧ s.env 0 = .ptr id 0 0 ∧ s.env 5 = .osl i2 0 i ∧ s.env 6 = .int .i64 (n : Int) ∧ s.env 7 = .int .i64 (i : Int) ∧ s.env 8 = .ptr ia 0 0 ∧ s.env 9 = .ptr ib 0 0 ∧ s.env 43 = .bool c ∧ s.heap id = some (2,[[Wd .u8 l,.int .i64 (q : Int)]]) ∧ id < s.nx ∧ s.heap i2 = some (4,S.map Sg.cells) ∧ i2 < s.nx ∧ s.heap ia = some (2,[Sp.cells a]) ∧ ia < s.nx ∧ s.heap ib = some (2,[Sp.cells b]) ∧ ib < s.nx ∧ s.nt = 114) → K16 s:=by
    rintro ⟨e,H,mm,nt⟩ ⟨q,ia,ib,a,b,c,hq,hab,ha,hb,hrs,hc,g0w,g5w,g6w,g7w,g8w,g9w,g43w,Hrw,xrw,How,xow,Haw,xaw,Hbw,xbw,rfl⟩
    simp only [] at g0w g5w g6w g7w g8w g9w g43w Hrw xrw How xow Haw xaw Hbw xbw
    simp only [] at hrs
    obtain ⟨hab1,hab2⟩:=hab
    have hab : i2 < ia ∧ ia < ib:=⟨hab1,hab2⟩
    refine hK16 _ ?_
    refine .c (t:=c) (fun h43=>?_) (fun h43=>?_) (by simp (disch:=first|omega|(simp only[ln];omega)) [g43w])
    ·try simp only[dc]at h43
     have hi0:=hc h43
     obtain ⟨j,hj⟩ : ∃ j,i = j + 1:=⟨i - 1,by omega⟩
     have hji : (i : Int) - 1 = (j : Int):=by omega
     have hjS : j < S.length:=by omega
     have hj2 : j < i:=by omega
     obtain ⟨T,hT⟩ : ∃ T,T = gq S j:=⟨_,rfl⟩
     have hat : (S.map Sg.cells)[j]? = some (Sg.cells T):=by rw [List.getElem?_map,gq_get hjS,hT]; rfl
     have hae : ∀ h : j < (S.map Sg.cells).length,(S.map Sg.cells)[j] = Sg.cells T:=fun h=>by rw [List.getElem?_eq_getElem h] at hat; simpa using hat
     obtain ⟨tA,tB⟩:=hSo _ (gq_mem hjS)
     rw [← hM,← hT] at tA tB
     obtain ⟨ta1,ta2,ta3,ta4⟩:=tA
     obtain ⟨tb1,tb2,tb3,tb4⟩:=tB
     refine .old fun hold=>?_
     refine .d 39 ?_
     refine .k 6 (fun fs17 hfs17=>?_) (by simp (disch:=first|omega|(simp only[ln];omega)) [runDf.eq_def,runF1,runF2,stepF.eq_def,updo.eq_def,hupo.eq_def,opSto1.eq_def,List.take_succ_cons,List.take_zero,if_pos,g0w,g5w,g6w,g7w,g8w,g9w,g43w,Hrw,How,Haw,Hbw,hji,hj2,hat,hae,hSl,List.length_map]; rfl)
     refine DP.runF1q (by simp (disch:=first|omega|(simp only[ln];omega)) [runDf.eq_def,runF1,runF2,stepF.eq_def,updo.eq_def,hupo.eq_def,opSto1.eq_def,if_pos,g0w,g5w,g6w,g7w,g8w,g9w,g43w,Hrw,How,Haw,Hbw,hji,hj2,hat,hae,hSl,List.length_map]; rfl) fun fq18 hfq18=>?_
     simp [qids,asksB,Op.operands,topId] at hfq18
     simp only [updo]
     refine DP.runF1q (by simp (disch:=first|omega|(simp only[ln];omega)) [runDf.eq_def,runF1,runF2,stepF.eq_def,updo.eq_def,hupo.eq_def,opSto1.eq_def,if_pos,g0w,g5w,g6w,g7w,g8w,g9w,g43w,Hrw,How,Haw,Hbw,hji,hj2,hat,hae,hSl,List.length_map]; rfl) fun fq19 hfq19=>?_
     simp [qids,asksB,Op.operands,topId] at hfq19
     simp only [updo]
     refine DP.runF1q (by simp (disch:=first|omega|(simp only[ln];omega)) [runDf.eq_def,runF1,runF2,stepF.eq_def,updo.eq_def,hupo.eq_def,opSto1.eq_def,if_pos,g0w,g5w,g6w,g7w,g8w,g9w,g43w,Hrw,How,Haw,Hbw,hji,hj2,hat,hae,hSl,List.length_map]; rfl) fun fq20 hfq20=>?_
     simp [qids,asksB,Op.operands,topId] at hfq20
     simp only [updo]
     refine DP.runF1q (by simp (disch:=first|omega|(simp only[ln];omega)) [runDf.eq_def,runF1,runF2,stepF.eq_def,updo.eq_def,hupo.eq_def,opSto1.eq_def,if_pos,g0w,g5w,g6w,g7w,g8w,g9w,g43w,Hrw,How,Haw,Hbw,hji,hj2,hat,hae,hSl,List.length_map]; rfl) fun fq21 hfq21=>?_
     simp [qids,asksB,Op.operands,topId] at hfq21
     simp only [updo]
     refine DP.runF1q (by simp (disch:=first|omega|(simp only[ln];omega)) [runDf.eq_def,runF1,runF2,stepF.eq_def,updo.eq_def,hupo.eq_def,opSto1.eq_def,if_pos,g0w,g5w,g6w,g7w,g8w,g9w,g43w,Hrw,How,Haw,Hbw,hji,hj2,hat,hae,hSl,List.length_map]; rfl) fun fq22 hfq22=>?_
     simp [qids,asksB,Op.operands,topId] at hfq22
     simp only [updo]
     refine DP.runF1q (by simp (disch:=first|omega|(simp only[ln];omega)) [runDf.eq_def,runF1,runF2,stepF.eq_def,updo.eq_def,hupo.eq_def,opSto1.eq_def,if_pos,g0w,g5w,g6w,g7w,g8w,g9w,g43w,Hrw,How,Haw,Hbw,hji,hj2,hat,hae,hSl,List.length_map]; rfl) fun fq23 hfq23=>?_
     simp [qids,asksB,Op.operands,topId] at hfq23
     simp only [updo]
     refine DP.runF1q (by simp (disch:=first|omega|(simp only[ln];omega)) [runDf.eq_def,runF1,runF2,stepF.eq_def,updo.eq_def,hupo.eq_def,opSto1.eq_def,if_pos,g0w,g5w,g6w,g7w,g8w,g9w,g43w,Hrw,How,Haw,Hbw,hji,hj2,hat,hae,hSl,List.length_map]; rfl) fun fq24 hfq24=>?_
     simp [qids,asksB,Op.operands,topId] at hfq24
     simp only [updo]
     refine DP.runF1q (by simp (disch:=first|omega|(simp only[ln];omega)) [runDf.eq_def,runF1,runF2,stepF.eq_def,updo.eq_def,hupo.eq_def,opSto1.eq_def,if_pos,g0w,g5w,g6w,g7w,g8w,g9w,g43w,Hrw,How,Haw,Hbw,hji,hj2,hat,hae,hSl,List.length_map]; rfl) fun fq25 hfq25=>?_
     simp [qids,asksB,Op.operands,topId] at hfq25
     simp only [updo]
     refine DP.runF1q (by simp (disch:=first|omega|(simp only[ln];omega)) [runDf.eq_def,runF1,runF2,stepF.eq_def,updo.eq_def,hupo.eq_def,opSto1.eq_def,if_pos,g0w,g5w,g6w,g7w,g8w,g9w,g43w,Hrw,How,Haw,Hbw,hji,hj2,hat,hae,hSl,List.length_map]; rfl) fun fq26 hfq26=>?_
     simp [qids,asksB,Op.operands,topId] at hfq26
     simp only [updo]
     refine DP.runF1q (by simp (disch:=first|omega|(simp only[ln];omega)) [runDf.eq_def,runF1,runF2,stepF.eq_def,updo.eq_def,hupo.eq_def,opSto1.eq_def,if_pos,g0w,g5w,g6w,g7w,g8w,g9w,g43w,Hrw,How,Haw,Hbw,hji,hj2,hat,hae,hSl,List.length_map]; rfl) fun fq27 hfq27=>?_
     simp [qids,asksB,Op.operands,topId] at hfq27
     simp only [updo]
     refine DP.runF1q (by simp (disch:=first|omega|(simp only[ln];omega)) [runDf.eq_def,runF1,runF2,stepF.eq_def,updo.eq_def,hupo.eq_def,opSto1.eq_def,if_pos,g0w,g5w,g6w,g7w,g8w,g9w,g43w,Hrw,How,Haw,Hbw,hji,hj2,hat,hae,hSl,List.length_map]; rfl) fun fq28 hfq28=>?_
     simp [qids,asksB,Op.operands,topId] at hfq28
     simp only [updo]
     refine DP.runF1q (by simp (disch:=first|omega|(simp only[ln];omega)) [runDf.eq_def,runF1,runF2,stepF.eq_def,updo.eq_def,hupo.eq_def,opSto1.eq_def,if_pos,g0w,g5w,g6w,g7w,g8w,g9w,g43w,Hrw,How,Haw,Hbw,hji,hj2,hat,hae,hSl,List.length_map]; rfl) fun fq29 hfq29=>?_
     simp [qids,asksB,Op.operands,topId] at hfq29
     simp only [updo]
     refine DP.runF1q (by simp (disch:=first|omega|(simp only[ln];omega)) [runDf.eq_def,runF1,runF2,stepF.eq_def,updo.eq_def,hupo.eq_def,opSto1.eq_def,if_pos,g0w,g5w,g6w,g7w,g8w,g9w,g43w,Hrw,How,Haw,Hbw,hji,hj2,hat,hae,hSl,List.length_map]; rfl) fun fq30 hfq30=>?_
     simp [qids,asksB,Op.operands,topId] at hfq30
     simp only [updo]
     refine DP.runF1q (by simp (disch:=first|omega|(simp only[ln];omega)) [runDf.eq_def,runF1,runF2,stepF.eq_def,updo.eq_def,hupo.eq_def,opSto1.eq_def,if_pos,g0w,g5w,g6w,g7w,g8w,g9w,g43w,Hrw,How,Haw,Hbw,hji,hj2,hat,hae,hSl,List.length_map]; rfl) fun fq31 hfq31=>?_
     simp [qids,asksB,Op.operands,topId] at hfq31
     simp only [updo]
     refine DP.runF1q (by simp (disch:=first|omega|(simp only[ln];omega)) [runDf.eq_def,runF1,runF2,stepF.eq_def,updo.eq_def,hupo.eq_def,opSto1.eq_def,if_pos,g0w,g5w,g6w,g7w,g8w,g9w,g43w,Hrw,How,Haw,Hbw,hji,hj2,hat,hae,hSl,List.length_map]; rfl) fun fq32 hfq32=>?_
     simp [qids,asksB,Op.operands,topId] at hfq32
     simp only [updo]
     refine DP.runF1q (by simp (disch:=first|omega|(simp only[ln];omega)) [runDf.eq_def,runF1,runF2,stepF.eq_def,updo.eq_def,hupo.eq_def,opSto1.eq_def,if_pos,g0w,g5w,g6w,g7w,g8w,g9w,g43w,Hrw,How,Haw,Hbw,hji,hj2,hat,hae,hSl,List.length_map]; rfl) fun fq33 hfq33=>?_
     simp [qids,asksB,Op.operands,topId] at hfq33
     simp only [updo]
     refine DP.runF1q (by simp (disch:=first|omega|(simp only[ln];omega)) [runDf.eq_def,runF1,runF2,stepF.eq_def,updo.eq_def,hupo.eq_def,opSto1.eq_def,if_pos,g0w,g5w,g6w,g7w,g8w,g9w,g43w,Hrw,How,Haw,Hbw,hji,hj2,hat,hae,hSl,List.length_map]; rfl) fun fq34 hfq34=>?_
     simp [qids,asksB,Op.operands,topId] at hfq34
     simp only [updo]
     refine DP.runF1q (by simp (disch:=first|omega|(simp only[ln];omega)) [runDf.eq_def,runF1,runF2,stepF.eq_def,updo.eq_def,hupo.eq_def,opSto1.eq_def,if_pos,g0w,g5w,g6w,g7w,g8w,g9w,g43w,Hrw,How,Haw,Hbw,hji,hj2,hat,hae,hSl,List.length_map]; rfl) fun fq35 hfq35=>?_
     simp [qids,asksB,Op.operands,topId] at hfq35
     simp only [updo]
     refine DP.runF1q (by simp (disch:=first|omega|(simp only[ln];omega)) [runDf.eq_def,runF1,runF2,stepF.eq_def,updo.eq_def,hupo.eq_def,opSto1.eq_def,if_pos,g0w,g5w,g6w,g7w,g8w,g9w,g43w,Hrw,How,Haw,Hbw,hji,hj2,hat,hae,hSl,List.length_map]; rfl) fun fq36 hfq36=>?_
     simp [qids,asksB,Op.operands,topId] at hfq36
     simp only [updo]
     refine DP.runF1q (by simp (disch:=first|omega|(simp only[ln];omega)) [runDf.eq_def,runF1,runF2,stepF.eq_def,updo.eq_def,hupo.eq_def,opSto1.eq_def,if_pos,g0w,g5w,g6w,g7w,g8w,g9w,g43w,Hrw,How,Haw,Hbw,hji,hj2,hat,hae,hSl,List.length_map]; rfl) fun fq37 hfq37=>?_
     simp [qids,asksB,Op.operands,topId] at hfq37
     simp only [updo]
     refine DP.runF1q (by simp (disch:=first|omega|(simp only[ln];omega)) [runDf.eq_def,runF1,runF2,stepF.eq_def,updo.eq_def,hupo.eq_def,opSto1.eq_def,if_pos,g0w,g5w,g6w,g7w,g8w,g9w,g43w,Hrw,How,Haw,Hbw,hji,hj2,hat,hae,hSl,List.length_map]; rfl) fun fq38 hfq38=>?_
     simp [qids,asksB,Op.operands,topId] at hfq38
     simp only [updo]
     refine DP.runF1q (by simp (disch:=first|omega|(simp only[ln];omega)) [runDf.eq_def,runF1,runF2,stepF.eq_def,updo.eq_def,hupo.eq_def,opSto1.eq_def,if_pos,g0w,g5w,g6w,g7w,g8w,g9w,g43w,Hrw,How,Haw,Hbw,hji,hj2,hat,hae,hSl,List.length_map]; rfl) fun fq39 hfq39=>?_
     simp [qids,asksB,Op.operands,topId] at hfq39
     simp only [updo]
     refine DP.runF1q (by simp (disch:=first|omega|(simp only[ln];omega)) [runDf.eq_def,runF1,runF2,stepF.eq_def,updo.eq_def,hupo.eq_def,opSto1.eq_def,if_pos,g0w,g5w,g6w,g7w,g8w,g9w,g43w,Hrw,How,Haw,Hbw,hji,hj2,hat,hae,hSl,List.length_map]; rfl) fun fq40 hfq40=>?_
     simp [qids,asksB,Op.operands,topId] at hfq40
     simp only [updo]
     refine DP.runF1q (by simp (disch:=first|omega|(simp only[ln];omega)) [runDf.eq_def,runF1,runF2,stepF.eq_def,updo.eq_def,hupo.eq_def,opSto1.eq_def,if_pos,g0w,g5w,g6w,g7w,g8w,g9w,g43w,Hrw,How,Haw,Hbw,hji,hj2,hat,hae,hSl,List.length_map]; rfl) fun fq41 hfq41=>?_
     simp [qids,asksB,Op.operands,topId] at hfq41
     simp only [updo]
     refine DP.runF1q (by simp (disch:=first|omega|(simp only[ln];omega)) [runDf.eq_def,runF1,runF2,stepF.eq_def,updo.eq_def,hupo.eq_def,opSto1.eq_def,if_pos,g0w,g5w,g6w,g7w,g8w,g9w,g43w,Hrw,How,Haw,Hbw,hji,hj2,hat,hae,hSl,List.length_map]; rfl) fun fq42 hfq42=>?_
     simp [qids,asksB,Op.operands,topId] at hfq42
     simp only [updo]
     refine DP.runF1q (by simp (disch:=first|omega|(simp only[ln];omega)) [runDf.eq_def,runF1,runF2,stepF.eq_def,updo.eq_def,hupo.eq_def,opSto1.eq_def,if_pos,g0w,g5w,g6w,g7w,g8w,g9w,g43w,Hrw,How,Haw,Hbw,hji,hj2,hat,hae,hSl,List.length_map]; rfl) fun fq43 hfq43=>?_
     simp [qids,asksB,Op.operands,topId] at hfq43
     simp only [updo]
     refine DP.runF1q (by simp (disch:=first|omega|(simp only[ln];omega)) [runDf.eq_def,runF1,runF2,stepF.eq_def,updo.eq_def,hupo.eq_def,opSto1.eq_def,if_pos,g0w,g5w,g6w,g7w,g8w,g9w,g43w,Hrw,How,Haw,Hbw,hji,hj2,hat,hae,hSl,List.length_map]; rfl) fun fq44 hfq44=>?_
     simp [qids,asksB,Op.operands,topId] at hfq44
     simp only [updo]
     refine DP.runF1q (by simp (disch:=first|omega|(simp only[ln];omega)) [runDf.eq_def,runF1,runF2,stepF.eq_def,updo.eq_def,hupo.eq_def,opSto1.eq_def,if_pos,g0w,g5w,g6w,g7w,g8w,g9w,g43w,Hrw,How,Haw,Hbw,hji,hj2,hat,hae,hSl,List.length_map]; rfl) fun fq45 hfq45=>?_
     simp [qids,asksB,Op.operands,topId] at hfq45
     simp only [updo]
     refine DP.runF1q (by simp (disch:=first|omega|(simp only[ln];omega)) [runDf.eq_def,runF1,runF2,stepF.eq_def,updo.eq_def,hupo.eq_def,opSto1.eq_def,if_pos,g0w,g5w,g6w,g7w,g8w,g9w,g43w,Hrw,How,Haw,Hbw,hji,hj2,hat,hae,hSl,List.length_map]; rfl) fun fq46 hfq46=>?_
     simp [qids,asksB,Op.operands,topId] at hfq46
     simp only [updo]
     refine DP.runF1q (by simp (disch:=first|omega|(simp only[ln];omega)) [runDf.eq_def,runF1,runF2,stepF.eq_def,updo.eq_def,hupo.eq_def,opSto1.eq_def,if_pos,g0w,g5w,g6w,g7w,g8w,g9w,g43w,Hrw,How,Haw,Hbw,hji,hj2,hat,hae,hSl,List.length_map]; rfl) fun fq47 hfq47=>?_
     simp [qids,asksB,Op.operands,topId] at hfq47
     simp only [updo]
     refine DP.runF1q (by simp (disch:=first|omega|(simp only[ln];omega)) [runDf.eq_def,runF1,runF2,stepF.eq_def,updo.eq_def,hupo.eq_def,opSto1.eq_def,if_pos,g0w,g5w,g6w,g7w,g8w,g9w,g43w,Hrw,How,Haw,Hbw,hji,hj2,hat,hae,hSl,List.length_map]; rfl) fun fq48 hfq48=>?_
     simp [qids,asksB,Op.operands,topId] at hfq48
     simp only [updo]
     refine DP.runF1q (by simp (disch:=first|omega|(simp only[ln];omega)) [runDf.eq_def,runF1,runF2,stepF.eq_def,updo.eq_def,hupo.eq_def,opSto1.eq_def,if_pos,g0w,g5w,g6w,g7w,g8w,g9w,g43w,Hrw,How,Haw,Hbw,hji,hj2,hat,hae,hSl,List.length_map]; rfl) fun fq49 hfq49=>?_
     simp [qids,asksB,Op.operands,topId] at hfq49
     simp only [updo]
     refine DP.runF1q (by simp (disch:=first|omega|(simp only[ln];omega)) [runDf.eq_def,runF1,runF2,stepF.eq_def,updo.eq_def,hupo.eq_def,opSto1.eq_def,if_pos,g0w,g5w,g6w,g7w,g8w,g9w,g43w,Hrw,How,Haw,Hbw,hji,hj2,hat,hae,hSl,List.length_map]; rfl) fun fq50 hfq50=>?_
     simp [qids,asksB,Op.operands,topId] at hfq50
     simp only [updo]
     refine DQ.sto1 (m:=39) [6,7,8,9,10,11,12,13,14,15,16,17,18,19,20,21,22,23,24,25,26,27,28,29,30,31,32,33,34,35,36,37,38] _ (by simp (disch:=first|omega|(simp only[ln];omega)) [runDf.eq_def,runF1,runF2,stepF.eq_def,updo.eq_def,hupo.eq_def,opSto1.eq_def,if_pos,g0w,g5w,g6w,g7w,g8w,g9w,g43w,Hrw,How,Haw,Hbw,hji,hj2,hat,hae,hSl,List.length_map]; rfl) rfl (by simp only[ln,hfs17];omega) (by kernel_rfl) (by intro k f hk hex; simp only [List.mem_cons,List.not_mem_nil,or_false] at hex; rcases hex with rfl | rfl | rfl | rfl | rfl | rfl | rfl | rfl | rfl | rfl | rfl | rfl | rfl | rfl | rfl | rfl | rfl | rfl | rfl | rfl | rfl | rfl | rfl | rfl | rfl | rfl | rfl | rfl | rfl | rfl | rfl | rfl | rfl <;> (simp [List.getElem?_append,hfs17] at hk; subst hk; refine ⟨?_,by first | omega | (simp; done) | (simp; omega)⟩; simp [qids,asksB,Op.operands,Call.operands,topId,numS,numI,Wd,hfq18,hfq19,hfq20,hfq21,hfq22,hfq23,hfq24,hfq25,hfq26,hfq27,hfq28,hfq29,hfq30,hfq31,hfq32,hfq33,hfq34,hfq35,hfq36,hfq37,hfq38,hfq39,hfq40,hfq41,hfq42,hfq43,hfq44,hfq45,hfq46,hfq47,hfq48,hfq49,hfq50]; try omega)) ?_
     try simp only []
     refine DQ.sto1 (m:=39) [] _ (by simp (disch:=first|omega|(simp only[ln];omega)) [runDf.eq_def,runF1,runF2,stepF.eq_def,updo.eq_def,hupo.eq_def,opSto1.eq_def,if_pos,g0w,g5w,g6w,g7w,g8w,g9w,g43w,Hrw,How,Haw,Hbw,hji,hj2,hat,hae,hSl,List.length_map]; rfl) rfl (by simp only[ln,hfs17];omega) (by kernel_rfl) (by intro k f hk hex; simp only [List.not_mem_nil] at hex) ?_
     try simp only []
     refine J12 _ ?_
     refine ⟨q,ia,ib,T.a,⟨2 * T.b.x - T.a.x,2 * T.b.y - T.a.y⟩,hq,by omega,by unfold bP; omega,by unfold bP; simp only []; omega,by simp (disch:=first | omega | (simp; done) | (simp; omega)) [hrestr_in,hrestr_out,hrs,hupd_same],?_,?_,?_,?_,?_,?_,?_,?_,?_,?_,?_,?_,?_,?_,rfl⟩ <;> first|(simp (disch:=omega) [g0w,g5w,g6w,g7w,g8w,g9w,g43w,Hrw,How,Haw,Hbw,hat,hae,Sp.cells,Sg.cells];done)|omega|(simp;done)|(simp;omega)
    ·try simp only[dc]at h43
     refine .skip ?_
     refine J12 _ ?_
     refine ⟨q,ia,ib,a,b,hq,by omega,bP_mono ha (by omega),bP_mono hb (by omega),by simp (disch:=first | omega | (simp; done) | (simp; omega)) [hrestr_in,hrestr_out,hrs,hupd_same],?_,?_,?_,?_,?_,?_,?_,?_,?_,?_,?_,?_,?_,?_,rfl⟩ <;> first|(simp (disch:=omega) [g0w,g5w,g6w,g7w,g8w,g9w,g43w,Hrw,How,Haw,Hbw,Sp.cells,Sg.cells];done)|omega|(simp;done)|(simp;omega)
   by_cases hi0 : 0 < i
   ·refine .region ?_
    refine .k 4 ?_ (by simp (disch:=first|omega|(simp only[ln];omega)) [List.take_succ_cons,List.take_zero,hi0,g0v,g5v,g6v,g7v,g8v,g9v,Hrv,Hov,Hav,Hbv]; rfl)
    refine AOPS.old fun hold4=>?_
    refine .a (once_ac 6 (by omega) (by omega) l q id _ _ dl hl hq (by simp (disch:=omega) [Hrv]) hold4) hb98 ?_ (ha:=by simp (disch:=first|omega|(simp only[ln];omega)) [idf_Wd',hi0,g0v,g5v,g6v,g7v,g8v,g9v,Hrv,Hov,Hav,Hbv])
    rintro _ _ nx4 ⟨⟨b3,rfl⟩,⟨q2,hq2,rfl⟩,hnx4⟩
    try simp only [] at hnx4
    clear hold4
    refine .e ?_ (by simp (disch:=first|omega|(simp only[ln];omega)) [hi0,g0v,g5v,g6v,g7v,g8v,g9v,Hrv,Hov,Hav,Hbv]; rfl)
    refine J16 _ ?_
    refine ⟨q2,ia,ib,a,b,b3,hq2,by omega,ha,hb,by simp (disch:=first | omega | (simp; done) | (simp; omega)) [hrestr_in,hrestr_out,hrs,hupd_same],fun _=>hi0,?_,?_,?_,?_,?_,?_,?_,?_,?_,?_,?_,?_,?_,?_,?_,rfl⟩ <;> first|(simp (disch:=omega) [g0v,g5v,g6v,g7v,g8v,g9v,Hrv,Hov,Hav,Hbv,hi0,Sp.cells,Sg.cells];done)|omega|(simp;done)|(simp;omega)
   ·refine .r ?_ (by simp (disch:=first|omega|(simp only[ln];omega)) [hi0,g0v,g5v,g6v,g7v,g8v,g9v,Hrv,Hov,Hav,Hbv]; rfl)
    refine J16 _ ?_
    refine ⟨q,ia,ib,a,b,false,hq,by omega,ha,hb,by simp (disch:=first | omega | (simp; done) | (simp; omega)) [hrestr_in,hrestr_out,hrs,hupd_same],fun h=>by simp at h,?_,?_,?_,?_,?_,?_,?_,?_,?_,?_,?_,?_,?_,?_,?_,rfl⟩ <;> first|(simp (disch:=omega) [g0v,g5v,g6v,g7v,g8v,g9v,Hrv,Hov,Hav,Hbv,hi0,Sp.cells,Sg.cells];done)|omega|(simp;done)|(simp;omega)
  refine .sq fun K51 hK51=>?_
  have J51 : ∀ s : St,(∃ q : Nat,∃ ia : Nat,∃ ib : Nat,∃ a : Sp,∃ b : Sp,∃ c : Bool,(q ≤ l.length) ∧ (i2 < ia ∧ ia < ib) ∧ (bP (M) a) ∧ (bP (M) b) ∧ (hrestr (fun i=>decide (i < nx)) s.heap = hupd H0 id (some (2,[[Wd .u8 l,.int .i64 (q : Int)]]))) ∧ (c = true → 0 < i) ∧ s.env 0 = .ptr id 0 0 ∧ s.env 5 = .osl i2 0 i ∧ s.env 6 = .int .i64 (n : Int) ∧ s.env 7 = .int .i64 (i : Int) ∧ s.env 8 = .ptr ia 0 0 ∧ s.env 9 = .ptr ib 0 0 ∧ s.env 31 = .bool c ∧ s.heap id = some (2,[[Wd .u8 l,.int .i64 (q : Int)]]) ∧ id < s.nx ∧ s.heap i2 = some (4,S.map Sg.cells) ∧ i2 < s.nx ∧ s.heap ia = some (2,[Sp.cells a]) ∧ ia < s.nx ∧ s.heap ib = some (2,[Sp.cells b]) ∧ ib < s.nx ∧ s.nt = 114) → K51 s:=by
   rintro ⟨e,H,mm,nt⟩ ⟨q,ia,ib,a,b,c,hq,hab,ha,hb,hrs,hc,g0u,g5u,g6u,g7u,g8u,g9u,g31u,Hru,xru,Hou,xou,Hau,xau,Hbu,xbu,rfl⟩
   simp only [] at g0u g5u g6u g7u g8u g9u g31u Hru xru Hou xou Hau xau Hbu xbu
   simp only [] at hrs
   obtain ⟨hab1,hab2⟩:=hab
   have hab : i2 < ia ∧ ia < ib:=⟨hab1,hab2⟩
   refine hK51 _ ?_
   refine .c (t:=c) (fun h31=>?_) (fun h31=>?_) (by simp (disch:=first|omega|(simp only[ln];omega)) [g31u])
   ·try simp only[dc]at h31
    have hi0:=hc h31
    obtain ⟨j,hj⟩ : ∃ j,i = j + 1:=⟨i - 1,by omega⟩
    have hji : (i : Int) - 1 = (j : Int):=by omega
    have hjS : j < S.length:=by omega
    have hj2 : j < i:=by omega
    obtain ⟨T,hT⟩ : ∃ T,T = gq S j:=⟨_,rfl⟩
    have hat : (S.map Sg.cells)[j]? = some (Sg.cells T):=by rw [List.getElem?_map,gq_get hjS,hT]; rfl
    have hae : ∀ h : j < (S.map Sg.cells).length,(S.map Sg.cells)[j] = Sg.cells T:=fun h=>by rw [List.getElem?_eq_getElem h] at hat; simpa using hat
    obtain ⟨tA,tB⟩:=hSo _ (gq_mem hjS)
    rw [← hM,← hT] at tA tB
    obtain ⟨ta1,ta2,ta3,ta4⟩:=tA
    obtain ⟨tb1,tb2,tb3,tb4⟩:=tB
    refine .r ?_ (by simp (disch:=first|omega|(simp only[ln];omega)) [if_pos,g0u,g5u,g6u,g7u,g8u,g9u,g31u,Hru,Hou,Hau,Hbu,hji,hj2,hat,hae,hSl,List.length_map]; rfl)
    refine J11 _ ?_
    refine ⟨q,ia,ib,T.b,b,hq,by omega,⟨tb1,tb2,tb3,tb4⟩,hb,by simp (disch:=first | omega | (simp; done) | (simp; omega)) [hrestr_in,hrestr_out,hrs,hupd_same],?_,?_,?_,?_,?_,?_,?_,?_,?_,?_,?_,?_,?_,?_,rfl⟩ <;> first|(simp (disch:=omega) [g0u,g5u,g6u,g7u,g8u,g9u,g31u,Hru,Hou,Hau,Hbu,hat,hae,Sp.cells,Sg.cells];done)|omega|(simp;done)|(simp;omega)
   ·try simp only[dc]at h31
    refine .skip ?_
    refine J11 _ ?_
    refine ⟨q,ia,ib,a,b,hq,by omega,ha,hb,by simp (disch:=first | omega | (simp; done) | (simp; omega)) [hrestr_in,hrestr_out,hrs,hupd_same],?_,?_,?_,?_,?_,?_,?_,?_,?_,?_,?_,?_,?_,?_,rfl⟩ <;> first|(simp (disch:=omega) [g0u,g5u,g6u,g7u,g8u,g9u,g31u,Hru,Hou,Hau,Hbu,Sp.cells,Sg.cells];done)|omega|(simp;done)|(simp;omega)
  by_cases hi0 : 0 < i
  ·refine .region ?_
   refine .k 4 ?_ (by simp (disch:=first|omega|(simp only[ln];omega)) [List.take_succ_cons,List.take_zero,hi0,g0,g5,g6,g7,Hr,Ho]; rfl)
   refine AOPS.old fun hold4=>?_
   refine .a (once_ac 3 (by omega) (by omega) l q3 id _ _ dl hl hq3 (by simp (disch:=omega) [hH]) hold4) hb98 ?_ (ha:=by simp (disch:=first|omega|(simp only[ln];omega)) [idf_Wd',hi0,g0,g5,g6,g7,Hr,Ho])
   rintro _ _ nx4 ⟨⟨b3,rfl⟩,⟨q4,hq4,rfl⟩,hnx4⟩
   try simp only [] at hnx4
   clear hold4
   refine .e ?_ (by simp (disch:=first|omega|(simp only[ln];omega)) [hi0,g0,g5,g6,g7,Hr,Ho]; rfl)
   refine J51 _ ?_
   refine ⟨q4,nx2,nx3,⟨ax,ay⟩,⟨dx,dy⟩,b3,hq4,by omega,by unfold bP; simp only []; omega,by unfold bP; simp only []; omega,by simp (disch:=first | omega | (simp; done) | (simp; omega)) [hrestr_in,hrestr_out,hrs,hupd_same],fun _=>hi0,?_,?_,?_,?_,?_,?_,?_,?_,?_,?_,?_,?_,?_,?_,?_,rfl⟩ <;> first|(simp (disch:=omega) [g0,g5,g6,g7,Hr,Ho,hi0,Sp.cells,Sg.cells];done)|omega|(simp;done)|(simp;omega)
  ·refine .r ?_ (by simp (disch:=first|omega|(simp only[ln];omega)) [hi0,g0,g5,g6,g7,Hr,Ho]; rfl)
   refine J51 _ ?_
   refine ⟨q3,nx2,nx3,⟨ax,ay⟩,⟨dx,dy⟩,false,hq3,by omega,by unfold bP; simp only []; omega,by unfold bP; simp only []; omega,by simp (disch:=first | omega | (simp; done) | (simp; omega)) [hrestr_in,hrestr_out,hrs,hupd_same],fun h=>by simp at h,?_,?_,?_,?_,?_,?_,?_,?_,?_,?_,?_,?_,?_,?_,?_,rfl⟩ <;> first|(simp (disch:=omega) [g0,g5,g6,g7,Hr,Ho,hi0,Sp.cells,Sg.cells];done)|omega|(simp;done)|(simp;omega)
 ·try simp only[dc]at h19
  have hin : i = n:=by omega
  subst hin
  obtain ⟨hM1,hM2⟩:=pM_b hn6
  have hSk : ∀ s ∈ S,Sg.ok s:=fun s h=>⟨bP_ok (hSo s h).1 (by omega),bP_ok (hSo s h).2 (by omega)⟩
  refine .exit ?_
  refine hK4 _ ?_
  refine .sq fun K52 hK52=>?_
  refine .sq fun K53 hK53=>?_
  refine .region ?_
  refine .k 1 ?_ (by simp (disch:=first|omega|(simp only[ln];omega)) [List.take_succ_cons,List.take_zero,g0,g6,Hr]; rfl)
  refine AOPS.old fun hold1=>?_
  refine .a (once_ac 40 (by omega) (by omega) l q id _ _ dl hl hq (by simp (disch:=omega) [Hr]) hold1) hb98 ?_ (ha:=by simp (disch:=first|omega|(simp only[ln];omega)) [idf_Wd',g0,g6,Hr])
  rintro _ _ nx2 ⟨⟨b4,rfl⟩,⟨q2,hq2,rfl⟩,hnx2⟩
  try simp only [] at hnx2
  clear hold1
  rcases b4 with _ | _
  · refine .e ?_ (by simp (disch:=first|omega|(simp only[ln];omega)) [g0,g6,Hr]; rfl)
    refine hK53 _ ?_
    refine .c (t:=false) (fun h105=>by simp at h105) (fun h105=>?_)
    refine .skip ?_
    refine hK52 _ ?_
    refine .q ?_ (by simp (disch:=first|omega|(simp only[ln];omega)) [g5,Ho,hSl]; rfl)
    refine .ret ?_
    exact hK _ _ _ _ _ trivial ((Fin.mk (r:=.osl i2 0 i) (by simp (disch:=omega) [aRes,aResL,aRes1,g5])).restr (fun j=>decide (j < nx) || decide (j = i2))) (⟨S,i2,q2,by simp [hSl],hSk,by simp [hSl]; omega,hq2,hrestr_orS (by simp (disch:=first | omega | (simp; done) | (simp; omega)) [hrestr_in,hrestr_out,hrs,hupd_same]) (by simp (disch:=omega) [Ho,hSl,List.map_set,Sg.cells]) (by omega),by first|omega|(simp;omega),by first|omega|(simp;omega)⟩)
  refine .e ?_ (by simp (disch:=first|omega|(simp only[ln];omega)) [g0,g6,Hr]; rfl)
  refine hK53 _ ?_
  refine .c (t:=decide (0 < i)) (fun h105=>?_) (fun h105=>?_)
  ·
   have hi0:=of_decide_eq_true h105
   by_cases hn1 : i = 1
   ·have hn1' : (i : Int) = 1:=by omega
    refine .region ?_
    refine .k 3 ?_ (by simp (disch:=first|omega|(simp only[ln];omega)) [List.take_succ_cons,List.take_zero,if_pos,hn1',g0,g5,g6,Ho,Hr]; rfl)
    
    refine .a (below1_ac id _ _) hb100 ?_ (ha:=by simp (disch:=first|omega|(simp only[ln];omega)) [idf_Wd',if_pos,hn1',g0,g5,g6,Ho,Hr])
    rintro _ _ nx3 ⟨rfl,rfl,hnx3⟩
    try simp only [] at hnx3
    refine .k 1 ?_ (by simp (disch:=first|omega|(simp only[ln];omega)) [List.take_succ_cons,List.take_zero,if_pos,hn1',g0,g5,g6,Ho,Hr]; rfl)
    refine AOPS.old fun hold5=>?_
    refine .a (seg_ac l q2 id _ _ dl hl hq2 (by simp (disch:=omega) [Hr]) hold5) hb157 ?_ (ha:=by simp (disch:=first|omega|(simp only[ln];omega)) [idf_Wd',if_pos,hn1',g0,g5,g6,Ho,Hr])
    rintro _ _ nx4 ⟨⟨s,rfl,so⟩,⟨q4,hq4,rfl⟩,hnx4⟩
    try simp only [] at hnx4
    clear hold5
    refine .e ?_ (by simp (disch:=first|omega|(simp only[ln];omega)) [if_pos,hn1',g0,g5,g6,Ho,Hr]; rfl)
    refine hK52 _ ?_
    refine .q ?_ (by simp (disch:=first|omega|(simp only[ln];omega)) [g5,Ho,hSl,List.map_set,Sg.cells,List.length_set]; rfl)
    refine .ret ?_
    exact hK _ _ _ _ _ trivial ((Fin.mk (r:=.osl i2 0 i) (by simp (disch:=omega) [aRes,aResL,aRes1,g5])).restr (fun j=>decide (j < nx) || decide (j = i2))) (⟨(S.set 0 s),i2,q4,by simp [hSl],sok_set hSk so,by simp [hSl]; omega,hq4,hrestr_orS (by simp (disch:=first | omega | (simp; done) | (simp; omega)) [hrestr_in,hrestr_out,hrs,hupd_same]) (by simp (disch:=omega) [Ho,hSl,List.map_set,Sg.cells]) (by omega),by first|omega|(simp;omega),by first|omega|(simp;omega)⟩)
   ·refine .region ?_
    refine .k 3 ?_ (by simp (disch:=first|omega|(simp only[ln];omega)) [List.take_succ_cons,List.take_zero,if_pos,g0,g5,g6,Ho,Hr]; rfl)
    refine AOPS.old fun hold3=>?_
    refine .a (below_ac (i : Int) (by omega) (by omega) l q2 id _ _ dl hl hq2 (by simp (disch:=omega) [Hr]) hold3) hb100 ?_ (ha:=by simp (disch:=first|omega|(simp only[ln];omega)) [idf_Wd',if_pos,g0,g5,g6,Ho,Hr])
    rintro _ _ nx3 ⟨⟨k,rfl,k0,k1⟩,⟨q3,hq3,rfl⟩,hnx3⟩
    try simp only [] at hnx3
    clear hold3
    obtain ⟨K,rfl⟩:=Int.eq_ofNat_of_zero_le k0
    have hKs : K < S.length:=by omega
    have hKi : K < i:=by omega
    refine .k 1 ?_ (by simp (disch:=first|omega|(simp only[ln];omega)) [List.take_succ_cons,List.take_zero,if_pos,g0,g5,g6,Ho,Hr]; rfl)
    refine AOPS.old fun hold5=>?_
    refine .a (seg_ac l q3 id _ _ dl hl hq3 (by simp (disch:=omega) [Hr]) hold5) hb157 ?_ (ha:=by simp (disch:=first|omega|(simp only[ln];omega)) [idf_Wd',if_pos,g0,g5,g6,Ho,Hr])
    rintro _ _ nx4 ⟨⟨s,rfl,so⟩,⟨q4,hq4,rfl⟩,hnx4⟩
    try simp only [] at hnx4
    clear hold5
    refine .e ?_ (by simp (disch:=first|omega|(simp only[ln];omega)) [if_pos,g0,g5,g6,Ho,Hr]; rfl)
    refine hK52 _ ?_
    refine .q ?_ (by simp (disch:=first|omega|(simp only[ln];omega)) [g5,Ho,hSl,List.map_set,Sg.cells,List.length_set]; rfl)
    refine .ret ?_
    exact hK _ _ _ _ _ trivial ((Fin.mk (r:=.osl i2 0 i) (by simp (disch:=omega) [aRes,aResL,aRes1,g5])).restr (fun j=>decide (j < nx) || decide (j = i2))) (⟨(S.set K s),i2,q4,by simp [hSl],sok_set hSk so,by simp [hSl]; omega,hq4,hrestr_orS (by simp (disch:=first | omega | (simp; done) | (simp; omega)) [hrestr_in,hrestr_out,hrs,hupd_same]) (by simp (disch:=omega) [Ho,hSl,List.map_set,Sg.cells]) (by omega),by first|omega|(simp;omega),by first|omega|(simp;omega)⟩)
  ·
   refine .skip ?_
   refine hK52 _ ?_
   refine .q ?_ (by simp (disch:=first|omega|(simp only[ln];omega)) [g5,Ho,hSl,List.map_set,Sg.cells,List.length_set]; rfl)
   refine .ret ?_
   exact hK _ _ _ _ _ trivial ((Fin.mk (r:=.osl i2 0 i) (by simp (disch:=omega) [aRes,aResL,aRes1,g5])).restr (fun j=>decide (j < nx) || decide (j = i2))) (⟨S,i2,q2,by simp [hSl],hSk,by simp [hSl]; omega,hq2,hrestr_orS (by simp (disch:=first | omega | (simp; done) | (simp; omega)) [hrestr_in,hrestr_out,hrs,hupd_same]) (by simp (disch:=omega) [Ho,hSl,List.map_set,Sg.cells]) (by omega),by first|omega|(simp;omega),by first|omega|(simp;omega)⟩)
end

end Go.Proofs.YtaibemhdfhchfaaGreat

/- Walks: drawn segments and points; rows of numbers compared. -/
namespace Go.Proofs.YtaibemhdfhchfaaGreat
open Go Go.RowKit
set_option linter.unusedSimpArgs false
set_option linter.unusedVariables false
set_option maxRecDepth 100000
attribute [local simp] szT2 byT2 agT2 unT2 zoT2 szT3 byT3 agT3 unT3 zoT3 szT27 byT27 agT27 flT27 fdT27_0 fdT27_1 fdT27_2 fdT27_3 zoT27 szT29 byT29 agT29 flT29 fdT29_0 fdT29_1 fdT29_2 zoT29 szT32 byT32 agT32 elT32 unT32 zoT32

theorem wd_at {l : List Int} {i : Nat} (h : i < l.length) : (wd .i64 l)[i]? = some [.int .i64 (gt l i)]:=by
  unfold wd gt; rw [List.getElem?_map,List.getElem?_eq_getElem h]; simp

set_option maxHeartbeats 1000000 in
theorem sameInts_fc (a : List Int) (ha : a.length ≤ 1048576) : FC Tryz.prog 17 [Wd .i64 a,Wd .i64 a] (.bool true):=by
 refine .b Tryz.func17 26 (fun nx K hK=>?_)
 refine .q ?_
 refine .sq fun K2 hK2=>?_
 refine .q ?_ (by simp (disch:=first|omega|(simp only[ln];omega)) [len_Wd (P:=Tryz.prog) #[32] rfl elT32]; rfl)
 refine .c (t:=false) (fun h10=>?_) (fun h10=>?_)
 ·simp at h10
 ·try simp only[dc]at h10
  refine .skip ?_
  refine hK2 _ ?_
  refine .sq fun K4 hK4=>?_
  refine .q ?_
  refine .block ?_
  
  refine .loop (fun N s=>∃ i : Nat,N = a.length - i ∧ i ≤ a.length ∧ s.env 0 = Wd .i64 a ∧ s.env 1 = Wd .i64 a ∧ s.env 5 = .int .i64 (i : Int) ∧ s.nt = 26) (a.length) (by refine ⟨0,by omega,by omega,?_,?_,?_,rfl⟩ <;> first|(simp (disch:=omega);done)|omega|(simp;done)|(simp;omega)) ?_
  rintro N ⟨e,H,mm,nt⟩ ⟨i,rfl,hi,g0,g1,g5,rfl⟩
  simp only [] at g0 g1 g5
  refine .sq fun K6 hK6=>?_
  refine .q ?_ (by simp (disch:=first|omega|(simp only[ln];omega)) [len_Wd (P:=Tryz.prog) #[32] rfl elT32,g0,g5]; rfl)
  refine .c (fun h14=>?_) (fun h14=>?_)
  ·try simp only[dc]at h14
   have hi' : i < a.length:=by omega
   have hat:=wd_at hi'
   have hae : ∀ h : i < (wd .i64 a).length,(wd .i64 a)[i] = [.int .i64 (gt a i)]:=fun h=>by rw [List.getElem?_eq_getElem h] at hat; simpa using hat
   refine .skip ?_
   refine hK6 _ ?_
   refine .sq fun K8 hK8=>?_
   refine .block ?_
   refine .sq fun K9 hK9=>?_
   refine .df 9 ?_ (by simp (disch:=first|omega|(simp only[ln];omega)) [runDf.eq_def,runF1,runF2,stepF.eq_def,updo.eq_def,hupo.eq_def,opSto1.eq_def,idx_WdD (P:=Tryz.prog) elT32 szT2,if_pos,g0,g1,g5,hat,hae,hi']; rfl)
   refine hK9 _ ?_
   refine .c (t:=false) (fun h25=>?_) (fun h25=>?_)
   ·simp at h25
   ·try simp only[dc]at h25
    refine .skip ?_
    refine hK8 _ ?_
    refine .r ?_ (by simp (disch:=first|omega|(simp only[ln];omega)) [g5]; rfl)
    refine ⟨a.length - (i + 1),by omega,i + 1,rfl,by omega,?_,?_,?_,rfl⟩ <;> first|(simp (disch:=omega) [g0,g1,g5];done)|omega|(simp;done)|(simp;omega)
  ·try simp only[dc]at h14
   refine .exit ?_
   refine hK4 _ ?_
   refine .q ?_
   refine .ret ?_
   exact hK _ _ _ _ trivial ((Fin.mk (r:=.bool true) (by simp [aRes,aResL,aRes1]; try rfl)))
section
attribute [local simp] Sp.av Sp.cells Sg.av Sg.cells
end

end Go.Proofs.YtaibemhdfhchfaaGreat
