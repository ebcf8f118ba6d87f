/- Walks: rows of points in order. -/
import Derived.Test.YtaibemhdfhchfaaGreatG17

namespace Go.Proofs.YtaibemhdfhchfaaGreat
open Go Go.RowKit
set_option linter.unusedSimpArgs false
set_option linter.unusedVariables false
set_option maxRecDepth 100000
attribute [local simp] szT3 byT3 agT3 unT3 zoT3 szT27 byT27 agT27 flT27 fdT27_0 fdT27_1 fdT27_2 fdT27_3 zoT27 szT29 byT29 agT29 flT29 fdT29_0 fdT29_1 fdT29_2 zoT29 szT188 byT188 agT188 elT188 unT188 zoT188 szT204 byT204 agT204 unT204 zoT204 szT313 byT313 agT313 unT313 zoT313

section
attribute [local simp] runDf.eq_def runF1 runF2 stepF.eq_def updo.eq_def hupo.eq_def opSto1.eq_def runQ runT qOk.eq_def qnone asksB.eq_def topId.eq_def Op.operands List.take_succ_cons List.take_zero List.drop_succ_cons List.drop_zero Pt.cells
set_option maxHeartbeats 4000000 in
theorem insPt_ac {α : Type} [Inhabited α] (P : α → Pt) (cv : α → α → Int) (f : Nat) (caps : List AV) (hc : CmpF Tryz.prog f caps (fun x=>.agg (Pt.cells (P x))) cv) (d : Array α) (n id : Nat) (HP : Heap) (nx : Nat) (hn : d.size = n) (hH : HP id = some (12,rwA (fun x=>(Pt.cells (P x))) d)) (hid : id < nx) (hl : n ≤ 1099511627776) (a b : Nat) (ha : a ≤ n) (hb : b ≤ n) : ACall Tryz.prog 282 [.osl id 0 n,.int .i64 (a : Int),.int .i64 (b : Int),.fn f caps] HP nx (fun r H' nx'=>r = .tup [] ∧ H' = hupd HP id (some (12,rwA (fun x=>(Pt.cells (P x))) (Sort.insertionSort (ltc cv) d a b))) ∧ nx ≤ nx'):=by
 refine .b Tryz.func282 53 fun K hK=>?_
 refine .q ?_
 refine .block ?_
 refine .loop (fun N st=>∃ (i : Nat) (e : Array α) (D : List (List AV)),(N = b - i) ∧ (a + 1 ≤ i) ∧ (i ≤ n + 1) ∧ (e.size = n) ∧ (Sort.insOuter (ltc cv) a b i e = Sort.insertionSort (ltc cv) d a b) ∧ (D = rwA (fun x=>(Pt.cells (P x))) e) ∧ (st.heap = hupd HP id (some (12,D))) ∧ (nx ≤ st.nx) ∧ st.env 0 = .osl id 0 n ∧ st.env 1 = .int .i64 (a : Int) ∧ st.env 2 = .int .i64 (b : Int) ∧ st.env 3 = .fn f caps ∧ st.env 8 = .int .i64 (i : Int) ∧ st.nt = 53) (b - (a + 1)) (by refine ⟨a + 1,d,_,rfl,Nat.le_refl _,by omega,hn,rfl,rfl,(hupd_id hH).symm,Nat.le_refl _,?_,?_,?_,?_,?_,rfl⟩ <;> first|(simp (disch:=omega);done)|omega|(simp;done)|(simp;omega)) ?_
 rintro N ⟨e0,H,mm,nt⟩ ⟨i,e,D,rfl,hi1,hi2,he,hE,hD,rfl,hnx,g0,g1,g2,g3,g8,rfl⟩
 simp only [] at g0 g1 g2 g3 g8 hnx
 refine .sq fun K2 hK2=>?_
 refine .q ?_ (by simp (disch:=first|omega|(simp only[ln];omega)) [g8,g2]; rfl)
 refine .c (t:=decide ((i : Int) < (b : Int))) (fun h14=>?_) (fun h14=>?_)
 ·try simp only[dc]at h14
  have hi' : i < b:=by omega
  refine .skip ?_
  refine hK2 _ ?_
  refine .sq fun K4 hK4=>?_
  refine .block ?_
  refine .q ?_ (by simp (disch:=first|omega|(simp only[ln];omega)) [g0,g1,g2,g3,g8]; rfl)
  refine .block ?_
  refine .loop (fun N st=>∃ (j : Nat) (k : Array α) (D2 : List (List AV)),(N = j) ∧ (a ≤ j) ∧ (j ≤ i) ∧ (k.size = n) ∧ (Sort.insInner (ltc cv) a j k = Sort.insInner (ltc cv) a i e) ∧ (D2 = rwA (fun x=>(Pt.cells (P x))) k) ∧ (st.heap = hupd HP id (some (12,D2))) ∧ (nx ≤ st.nx) ∧ st.env 0 = .osl id 0 n ∧ st.env 1 = .int .i64 (a : Int) ∧ st.env 2 = .int .i64 (b : Int) ∧ st.env 3 = .fn f caps ∧ st.env 8 = .int .i64 (i : Int) ∧ st.env 9 = .int .i64 (j : Int) ∧ st.nt = 53) (i) (by refine ⟨i,e,D,rfl,by omega,Nat.le_refl _,he,rfl,hD,by simp,by simp; omega,?_,?_,?_,?_,?_,?_,rfl⟩ <;> first|(simp (disch:=omega) [g0,g1,g2,g3,g8];done)|omega|(simp;done)|(simp;omega)|(simp (disch:=omega) [g0,g1,g2,g3,g8] <;> omega)) ?_
  rintro N ⟨e0,H,mm,nt⟩ ⟨j,k,D2,hN,hj1,hj2,hk,hK2,hD2,rfl,hmx,g0j,g1j,g2j,g3j,g8j,g9j,rfl⟩
  simp only [] at g0j g1j g2j g3j g8j g9j hmx
  refine .sq fun K6 hK6=>?_
  refine .sq fun K7 hK7=>?_
  by_cases hja : a < j
  ·have hjm : (j : Int) - 1 = ((j - 1 : Nat) : Int):=by omega
   have ha1 : D2[j]? = some (Pt.cells (P (gA k j))):=by rw [hD2]; exact rwA_get (by omega)
   have hg1 : ∀ h : j < D2.length,D2[j] = (Pt.cells (P (gA k j))):=fun h=>by rw [List.getElem?_eq_getElem h] at ha1; simpa using ha1
   have ha2 : D2[(j - 1)]? = some (Pt.cells (P (gA k (j - 1)))):=by rw [hD2]; exact rwA_get (by omega)
   have hg2 : ∀ h : (j - 1) < D2.length,D2[(j - 1)] = (Pt.cells (P (gA k (j - 1)))):=fun h=>by rw [List.getElem?_eq_getElem h] at ha2; simpa using ha2
   have hcl : D2.length = n:=by rw [hD2,rwA_len]; assumption
   have hz1 : j < n:=by omega
   have hz2 : (j - 1) < n:=by omega
   refine .d 17 ?_
   refine .k 14 (fun fs8 hfs8=>?_) (by simp (disch:=first|omega|(simp only[ln];omega)) [List.take_succ_cons,List.take_zero,if_pos,g0j,g1j,g2j,g3j,g8j,g9j,hjm,hja,ha1,ha2,hcl,hg1,hg2,hz1,hz2,hid]; rfl)
   refine DP.fcall (hc.2 (gA k j) (gA k (j - 1))) rfl rfl (by simp; rfl) hc.1 (by simp (disch:=first|omega|(simp only[ln];omega)) [idf_Wd']) (by simp (disch:=first|omega|(simp only[ln];omega))) (by simp) ?_
   simp only [updo]
   refine .k 2 (fun fs9 hfs9=>?_) (by simp (disch:=first|omega|(simp only[ln];omega)) [List.take_succ_cons,List.take_zero,if_pos]; rfl)
   refine .r 17 (by simp only[ln,hfs8,hfs9];omega) ?_ (by simp (disch:=first|omega|(simp only[ln];omega)) [if_pos]; rfl)
   refine hK7 _ ?_
   refine .c (t:=ltc cv (gA k j) (gA k (j - 1))) (fun h34=>?_) (fun h34=>?_) (by simp (disch:=first|omega|(simp only[ln];omega)) [ltc])
   ·try simp only[dc]at h34
    have hlt:=h34
    refine .skip ?_
    refine hK6 _ ?_
    refine .sq fun K10 hK10=>?_
    refine .block ?_
    have ha1 : D2[j]? = some (Pt.cells (P (gA k j))):=by rw [hD2]; exact rwA_get (by omega)
    have hg1 : ∀ h : j < D2.length,D2[j] = (Pt.cells (P (gA k j))):=fun h=>by rw [List.getElem?_eq_getElem h] at ha1; simpa using ha1
    have ha2 : D2[(j - 1)]? = some (Pt.cells (P (gA k (j - 1)))):=by rw [hD2]; exact rwA_get (by omega)
    have hg2 : ∀ h : (j - 1) < D2.length,D2[(j - 1)] = (Pt.cells (P (gA k (j - 1)))):=fun h=>by rw [List.getElem?_eq_getElem h] at ha2; simpa using ha2
    have hset : (D2.set j (Pt.cells (P (gA k (j - 1))))).set (j - 1) (Pt.cells (P (gA k j))) = rwA (fun x=>(Pt.cells (P x))) (Sort.swp k j (j - 1)):=by rw [hD2]; exact rwA_swp
    have hcl : D2.length = n:=by rw [hD2,rwA_len]; assumption
    obtain ⟨row,hr1,hr2⟩ : ∃ row,(D2.set j (Pt.cells (P (gA k (j - 1)))))[(j - 1)]? = some row ∧ row.length = 12:=by rw [hD2]; exact rwA_row (fun _=>rfl) (by omega) (by omega) rfl
    have hr3 : row.drop 12 = []:=List.drop_eq_nil_of_le (by omega)
    have hg3 : ∀ h : (j - 1) < (D2.set j (Pt.cells (P (gA k (j - 1))))).length,(D2.set j (Pt.cells (P (gA k (j - 1)))))[(j - 1)] = row:=fun h=>by rw [List.getElem?_eq_getElem h] at hr1; simpa using hr1
    simp only [Pt.cells] at hr1 hg3
    have hz1 : j < n:=by omega
    have hz2 : (j - 1) < n:=by omega
    have hz3 : id < mm:=by omega
    refine .sw 15 [2,3,4] ?_ (by simp (disch:=first|omega|(simp only[ln];omega)) [if_pos,g0j,g1j,g2j,g3j,g8j,g9j,hjm,hz3,ha1,ha2,hcl,hg1,hg2,hg3,hr1,hr2,hr3,hz1,hz2,hid,hset,hupd_same,List.length_set]; rfl) (by simp (disch:=first|omega|(simp only[ln];omega)) [if_pos,g0j,g1j,g2j,g3j,g8j,g9j,hjm,hz3,ha1,ha2,hcl,hg1,hg2,hg3,hr1,hr2,hr3,hz1,hz2,hid,hset,hupd_same,List.length_set]; rfl)
    refine hK10 _ ?_
    refine .r ?_ (by simp (disch:=first|omega|(simp only[ln];omega)) [g0j,g1j,g2j,g3j,g8j,g9j]; rfl)
    refine ⟨j - 1,by omega,j - 1,Sort.swp k j (j - 1),_,rfl,by omega,by omega,by rw [Sort.size_swp]; exact hk,by rw [← hK2,insInner_pos _ hja hlt],rfl,by simp only [hupd_same]; exact congrArg (fun x=>hupd HP id (some (12,x))) hset,by simp; omega,?_,?_,?_,?_,?_,?_,rfl⟩ <;> first|(simp (disch:=omega) [g0j,g1j,g2j,g3j,g8j,g9j,hjm];done)|omega|(simp;done)|(simp;omega)|(simp (disch:=omega) [g0j,g1j,g2j,g3j,g8j,g9j,hjm] <;> omega)
   ·try simp only[dc]at h34
    have hend:=insInner_neg (a:=a) (j:=j) (d:=k) (ltc cv) (fun h=>by rw [h34] at h; simp at h)
    refine .exit ?_
    refine hK4 _ ?_
    refine .r ?_ (by simp (disch:=first|omega|(simp only[ln];omega)) [g0j,g1j,g2j,g3j,g8j,g9j]; rfl)
    refine ⟨b - (i + 1),by omega,i + 1,k,D2,rfl,by omega,by omega,hk,by rw [← hE,insOuter_pos _ hi',← hK2,hend],hD2,by simp,by simp; omega,?_,?_,?_,?_,?_,rfl⟩ <;> first|(simp (disch:=omega) [g0j,g1j,g2j,g3j,g8j,g9j];done)|omega|(simp;done)|(simp;omega)
  ·
   refine .df 17 ?_ (by simp (disch:=first|omega|(simp only[ln];omega)) [if_pos,g0j,g1j,g2j,g3j,g8j,g9j,hja]; rfl)
   refine hK7 _ ?_
   refine .c (t:=false) (fun h34=>?_) (fun h34=>?_) (by simp (disch:=first|omega|(simp only[ln];omega)) [hja])
   ·simp at h34
   ·
    have hend:=insInner_neg (a:=a) (j:=j) (d:=k) (ltc cv) (fun h=>hja h.1)
    refine .exit ?_
    refine hK4 _ ?_
    refine .r ?_ (by simp (disch:=first|omega|(simp only[ln];omega)) [g0j,g1j,g2j,g3j,g8j,g9j]; rfl)
    refine ⟨b - (i + 1),by omega,i + 1,k,D2,rfl,by omega,by omega,hk,by rw [← hE,insOuter_pos _ hi',← hK2,hend],hD2,by simp,by simp; omega,?_,?_,?_,?_,?_,rfl⟩ <;> first|(simp (disch:=omega) [g0j,g1j,g2j,g3j,g8j,g9j];done)|omega|(simp;done)|(simp;omega)
 ·try simp only[dc]at h14
  rw [insOuter_neg _ (by omega)] at hE
  subst hE
  subst hD
  refine .exit ?_
  exact hK _ _ _ _ _ trivial (Fin.m) (⟨rfl,rfl,hnx⟩)
set_option maxHeartbeats 4000000 in
theorem siftPt_ac {α : Type} [Inhabited α] (P : α → Pt) (cv : α → α → Int) (f : Nat) (caps : List AV) (hc : CmpF Tryz.prog f caps (fun x=>.agg (Pt.cells (P x))) cv) (d : Array α) (n id : Nat) (HP : Heap) (nx : Nat) (hn : d.size = n) (hH : HP id = some (12,rwA (fun x=>(Pt.cells (P x))) d)) (hid : id < nx) (hl : n ≤ 1099511627776) (lo hi first : Nat) (hlo : lo ≤ n) (hf : first + hi ≤ n) : ACall Tryz.prog 321 [.osl id 0 n,.int .i64 (lo : Int),.int .i64 (hi : Int),.int .i64 (first : Int),.fn f caps] HP nx (fun r H' nx'=>r = .tup [] ∧ H' = hupd HP id (some (12,rwA (fun x=>(Pt.cells (P x))) (Sort.siftDown (ltc cv) hi first lo d))) ∧ nx ≤ nx'):=by
 refine .b Tryz.func321 82 fun K hK=>?_
 refine .q ?_
 refine .block ?_
 refine .loop (fun N st=>∃ (root : Nat) (e : Array α) (D : List (List AV)),(N = hi - root) ∧ (e.size = n) ∧ (Sort.siftDown (ltc cv) hi first root e = Sort.siftDown (ltc cv) hi first lo d) ∧ (root ≤ n) ∧ (D = rwA (fun x=>(Pt.cells (P x))) e) ∧ (st.heap = hupd HP id (some (12,D))) ∧ (nx ≤ st.nx) ∧ st.env 0 = .osl id 0 n ∧ st.env 1 = .int .i64 (lo : Int) ∧ st.env 2 = .int .i64 (hi : Int) ∧ st.env 3 = .int .i64 (first : Int) ∧ st.env 4 = .fn f caps ∧ st.env 10 = .int .i64 (root : Int) ∧ st.nt = 82) (hi - lo) (by refine ⟨lo,d,_,rfl,hn,rfl,by omega,rfl,(hupd_id hH).symm,by simp,?_,?_,?_,?_,?_,?_,rfl⟩ <;> first|(simp (disch:=omega);done)|omega|(simp;done)|(simp;omega)) ?_
 rintro N ⟨e0,H,mm,nt⟩ ⟨root,e,D,rfl,he,hE,hr,hD,rfl,hnx,g0,g1,g2,g3,g4,g10,rfl⟩
 simp only [] at g0 g1 g2 g3 g4 g10 hnx
 refine .block ?_
 refine .q ?_ (by simp (disch:=first|omega|(simp only[ln];omega)) [g10]; rfl)
 refine .sq fun K3 hK3=>?_
 have J3 : ∀ s : St,(∃ (c1 : Nat),(2 * root + 1 < hi) ∧ (c1 = 2 * root + 1) ∧ (s.heap = hupd HP id (some (12,D))) ∧ (nx ≤ s.nx) ∧ s.env 0 = .osl id 0 n ∧ s.env 1 = .int .i64 (lo : Int) ∧ s.env 2 = .int .i64 (hi : Int) ∧ s.env 3 = .int .i64 (first : Int) ∧ s.env 4 = .fn f caps ∧ s.env 10 = .int .i64 (root : Int) ∧ s.env 11 = .int .i64 (c1 : Int) ∧ s.nt = 82) → K3 s:=by
  rintro ⟨e0,H,mm,nt⟩ ⟨c1,hlt,hc1,rfl,hnxc,g0c,g1c,g2c,g3c,g4c,g10c,g11c,rfl⟩
  simp only [] at g0c g1c g2c g3c g4c g10c g11c
  simp only [] at hnxc
  obtain ⟨p2,hp2⟩ : ∃ p2,p2 = first + c1:=⟨_,rfl⟩
  obtain ⟨p3,hp3⟩ : ∃ p3,p3 = first + (c1 + 1):=⟨_,rfl⟩
  have e1 : 2 * (root : Int) + 1 = (c1 : Int):=by omega
  have e2 : (first : Int) + (c1 : Int) = (p2 : Int):=by omega
  have e3 : (p2 : Int) + 1 = (p3 : Int):=by omega
  have hq : chd (ltc cv) hi first root e = if c1 + 1 < hi ∧ ltc cv (gA e p2) (gA e p3) = true then c1 + 1 else c1:=by rw [chd_eq,hp3,hp2,hc1]
  refine hK3 _ ?_
  refine .sq fun K4 hK4=>?_
  have J4 : ∀ s : St,(∃ (c : Nat),(c = chd (ltc cv) hi first root e) ∧ (s.heap = hupd HP id (some (12,D))) ∧ (nx ≤ s.nx) ∧ s.env 0 = .osl id 0 n ∧ s.env 1 = .int .i64 (lo : Int) ∧ s.env 2 = .int .i64 (hi : Int) ∧ s.env 3 = .int .i64 (first : Int) ∧ s.env 4 = .fn f caps ∧ s.env 10 = .int .i64 (root : Int) ∧ s.env 11 = .int .i64 (c : Int) ∧ s.nt = 82) → K4 s:=by
   rintro ⟨e0,H,mm,nt⟩ ⟨c,hch,rfl,hnxk,g0k,g1k,g2k,g3k,g4k,g10k,g11k,rfl⟩
   simp only [] at g0k g1k g2k g3k g4k g10k g11k
   simp only [] at hnxk
   have hcl:=chd_lt (ltc cv) (first:=first) (d:=e) hlt
   have hcg:=chd_gt (ltc cv) hi first root e
   rw [← hch] at hcl hcg
   obtain ⟨p1,hp1⟩ : ∃ p1,p1 = first + root:=⟨_,rfl⟩
   obtain ⟨p4,hp4⟩ : ∃ p4,p4 = first + c:=⟨_,rfl⟩
   have e4 : (first : Int) + (root : Int) = (p1 : Int):=by omega
   have e5 : (first : Int) + (c : Int) = (p4 : Int):=by omega
   refine hK4 _ ?_
   refine .sq fun K5 hK5=>?_
   refine .sq fun K6 hK6=>?_
   have ha1 : D[p1]? = some (Pt.cells (P (gA e p1))):=by rw [hD]; exact rwA_get (by omega)
   have hg1 : ∀ h : p1 < D.length,D[p1] = (Pt.cells (P (gA e p1))):=fun h=>by rw [List.getElem?_eq_getElem h] at ha1; simpa using ha1
   have ha2 : D[p4]? = some (Pt.cells (P (gA e p4))):=by rw [hD]; exact rwA_get (by omega)
   have hg2 : ∀ h : p4 < D.length,D[p4] = (Pt.cells (P (gA e p4))):=fun h=>by rw [List.getElem?_eq_getElem h] at ha2; simpa using ha2
   have hcl : D.length = n:=by rw [hD,rwA_len]; assumption
   have hz1 : p1 < n:=by omega
   have hz2 : p4 < n:=by omega
   refine .d 16 ?_
   refine .k 13 (fun fs7 hfs7=>?_) (by simp (disch:=first|omega|(simp only[ln];omega)) [List.take_succ_cons,List.take_zero,if_pos,g0k,g1k,g2k,g3k,g4k,g10k,g11k,e4,e5,ha1,ha2,hcl,hg1,hg2,hz1,hz2,hid]; rfl)
   refine DP.fcall (hc.2 (gA e p1) (gA e p4)) rfl rfl (by simp; rfl) hc.1 (by simp (disch:=first|omega|(simp only[ln];omega)) [idf_Wd']) (by simp (disch:=first|omega|(simp only[ln];omega))) (by simp) ?_
   simp only [updo]
   refine .k 2 (fun fs8 hfs8=>?_) (by simp (disch:=first|omega|(simp only[ln];omega)) [List.take_succ_cons,List.take_zero,if_pos]; rfl)
   refine .r 16 (by simp only[ln,hfs7,hfs8];omega) ?_ (by simp (disch:=first|omega|(simp only[ln];omega)) [if_pos]; rfl)
   refine hK6 _ ?_
   refine .c (t:=!(ltc cv (gA e p1) (gA e p4))) (fun h58=>?_) (fun h58=>?_) (by simp (disch:=first|omega|(simp only[ln];omega)) [ltc])
   ·
    have h58' : ¬ ltc cv (gA e p1) (gA e p4) = true:=by simpa using h58
    rw [siftDown_step _ hlt,← hch,← hp1,← hp4,if_neg h58'] at hE
    subst hE
    subst hD
    refine .ret ?_
    exact hK _ _ _ _ _ trivial (Fin.m) (⟨rfl,rfl,by simp; omega⟩)
   ·
    replace h58 : ltc cv (gA e p1) (gA e p4) = true:=by simpa using h58
    refine .skip ?_
    refine hK5 _ ?_
    refine .sq fun K9 hK9=>?_
    have ha1 : D[p1]? = some (Pt.cells (P (gA e p1))):=by rw [hD]; exact rwA_get (by omega)
    have hg1 : ∀ h : p1 < D.length,D[p1] = (Pt.cells (P (gA e p1))):=fun h=>by rw [List.getElem?_eq_getElem h] at ha1; simpa using ha1
    have ha2 : D[p4]? = some (Pt.cells (P (gA e p4))):=by rw [hD]; exact rwA_get (by omega)
    have hg2 : ∀ h : p4 < D.length,D[p4] = (Pt.cells (P (gA e p4))):=fun h=>by rw [List.getElem?_eq_getElem h] at ha2; simpa using ha2
    have hset : (D.set p1 (Pt.cells (P (gA e p4)))).set p4 (Pt.cells (P (gA e p1))) = rwA (fun x=>(Pt.cells (P x))) (Sort.swp e p1 p4):=by rw [hD]; exact rwA_swp
    have hcl : D.length = n:=by rw [hD,rwA_len]; assumption
    obtain ⟨row,hr1,hr2⟩ : ∃ row,(D.set p1 (Pt.cells (P (gA e p4))))[p4]? = some row ∧ row.length = 12:=by rw [hD]; exact rwA_row (fun _=>rfl) (by omega) (by omega) rfl
    have hr3 : row.drop 12 = []:=List.drop_eq_nil_of_le (by omega)
    have hg3 : ∀ h : p4 < (D.set p1 (Pt.cells (P (gA e p4)))).length,(D.set p1 (Pt.cells (P (gA e p4))))[p4] = row:=fun h=>by rw [List.getElem?_eq_getElem h] at hr1; simpa using hr1
    simp only [Pt.cells] at hr1 hg3
    have hz1 : p1 < n:=by omega
    have hz2 : p4 < n:=by omega
    have hz3 : id < mm:=by omega
    refine .sw 21 [4,5,6,7] ?_ (by simp (disch:=first|omega|(simp only[ln];omega)) [if_pos,g0k,g1k,g2k,g3k,g4k,g10k,g11k,e4,e5,hz3,ha1,ha2,hcl,hg1,hg2,hg3,hr1,hr2,hr3,hz1,hz2,hid,hset,hupd_same,List.length_set]; rfl) (by simp (disch:=first|omega|(simp only[ln];omega)) [if_pos,g0k,g1k,g2k,g3k,g4k,g10k,g11k,e4,e5,hz3,ha1,ha2,hcl,hg1,hg2,hg3,hr1,hr2,hr3,hz1,hz2,hid,hset,hupd_same,List.length_set]; rfl)
    refine hK9 _ ?_
    refine .r ?_ (by simp (disch:=first|omega|(simp only[ln];omega)) [g0k,g1k,g2k,g3k,g4k,g10k,g11k]; rfl)
    refine ⟨hi - c,by omega,c,Sort.swp e p1 p4,_,rfl,by rw [Sort.size_swp]; exact he,by rw [← hE,siftDown_step _ hlt,← hch,← hp1,← hp4,if_pos h58],by omega,rfl,by simp only [hupd_same]; exact congrArg (fun x=>hupd HP id (some (12,x))) hset,by simp; omega,?_,?_,?_,?_,?_,?_,rfl⟩ <;> first|(simp (disch:=omega) [g0k,g1k,g2k,g3k,g4k,g10k,g11k];done)|omega|(simp;done)|(simp;omega)
  refine .sq fun K10 hK10=>?_
  have J10 : ∀ s : St,((s.heap = hupd HP id (some (12,D))) ∧ (nx ≤ s.nx) ∧ s.env 0 = .osl id 0 n ∧ s.env 1 = .int .i64 (lo : Int) ∧ s.env 2 = .int .i64 (hi : Int) ∧ s.env 3 = .int .i64 (first : Int) ∧ s.env 4 = .fn f caps ∧ s.env 10 = .int .i64 (root : Int) ∧ s.env 11 = .int .i64 (c1 : Int) ∧ s.env 40 = .bool (decide (c1 + 1 < hi ∧ ltc cv (gA e p2) (gA e p3) = true)) ∧ s.nt = 82) → K10 s:=by
   rintro ⟨e0,H,mm,nt⟩ ⟨rfl,hnxq,g0q,g1q,g2q,g3q,g4q,g10q,g11q,g40q,rfl⟩
   simp only [] at g0q g1q g2q g3q g4q g10q g11q g40q
   simp only [] at hnxq
   refine hK10 _ ?_
   refine .c (t:=decide (c1 + 1 < hi ∧ ltc cv (gA e p2) (gA e p3) = true)) (fun h40=>?_) (fun h40=>?_) (by simp (disch:=first|omega|(simp only[ln];omega)) [g40q])
   ·try simp only[dc]at h40
    refine .r ?_ (by simp (disch:=first|omega|(simp only[ln];omega)) [g0q,g1q,g2q,g3q,g4q,g10q,g11q,g40q]; rfl)
    refine J4 _ ?_
    refine ⟨c1 + 1,by rw [hq,if_pos h40],by simp,by simp; omega,?_,?_,?_,?_,?_,?_,?_,rfl⟩ <;> first|(simp (disch:=omega) [g0q,g1q,g2q,g3q,g4q,g10q,g11q,g40q];done)|omega|(simp;done)|(simp;omega)
   ·try simp only[dc]at h40
    refine .skip ?_
    refine J4 _ ?_
    refine ⟨c1,by rw [hq,if_neg h40],by simp,by simp; omega,?_,?_,?_,?_,?_,?_,?_,rfl⟩ <;> first|(simp (disch:=omega) [g0q,g1q,g2q,g3q,g4q,g10q,g11q,g40q];done)|omega|(simp;done)|(simp;omega)
  by_cases hgd : c1 + 1 < hi
  ·have hgi : (c1 : Int) + 1 < (hi : Int):=by omega
   have ha1 : D[p2]? = some (Pt.cells (P (gA e p2))):=by rw [hD]; exact rwA_get (by omega)
   have hg1 : ∀ h : p2 < D.length,D[p2] = (Pt.cells (P (gA e p2))):=fun h=>by rw [List.getElem?_eq_getElem h] at ha1; simpa using ha1
   have ha2 : D[p3]? = some (Pt.cells (P (gA e p3))):=by rw [hD]; exact rwA_get (by omega)
   have hg2 : ∀ h : p3 < D.length,D[p3] = (Pt.cells (P (gA e p3))):=fun h=>by rw [List.getElem?_eq_getElem h] at ha2; simpa using ha2
   have hcl : D.length = n:=by rw [hD,rwA_len]; assumption
   have hz1 : p2 < n:=by omega
   have hz2 : p3 < n:=by omega
   refine .d 22 ?_
   refine .k 19 (fun fs11 hfs11=>?_) (by simp (disch:=first|omega|(simp only[ln];omega)) [List.take_succ_cons,List.take_zero,if_pos,g0c,g1c,g2c,g3c,g4c,g10c,g11c,hgd,e2,e3,hgi,ha1,ha2,hcl,hg1,hg2,hz1,hz2,hid]; rfl)
   refine DP.fcall (hc.2 (gA e p2) (gA e p3)) rfl rfl (by simp; rfl) hc.1 (by simp (disch:=first|omega|(simp only[ln];omega)) [idf_Wd']) (by simp (disch:=first|omega|(simp only[ln];omega))) (by simp) ?_
   simp only [updo]
   refine .k 2 (fun fs12 hfs12=>?_) (by simp (disch:=first|omega|(simp only[ln];omega)) [List.take_succ_cons,List.take_zero,if_pos]; rfl)
   refine .r 22 (by simp only[ln,hfs11,hfs12];omega) ?_ (by simp (disch:=first|omega|(simp only[ln];omega)) [if_pos]; rfl)
   refine J10 _ ?_
   refine ⟨by simp,by simp; omega,?_,?_,?_,?_,?_,?_,?_,?_,rfl⟩ <;> first|(simp (disch:=omega) [g0c,g1c,g2c,g3c,g4c,g10c,g11c,hgd,ltc,e2,e3,hgi];done)|(simp;done)|(simp;omega)|(simp (disch:=omega) [g0c,g1c,g2c,g3c,g4c,g10c,g11c,hgd,ltc,e2,e3,hgi] <;> omega)
  ·have hgi : ¬ ((c1 : Int) + 1 < (hi : Int)):=by omega
   refine .df 22 ?_ (by simp (disch:=first|omega|(simp only[ln];omega)) [if_pos,g0c,g1c,g2c,g3c,g4c,g10c,g11c,hgd,e2,e3,hgi]; rfl)
   refine J10 _ ?_
   refine ⟨by simp,by simp; omega,?_,?_,?_,?_,?_,?_,?_,?_,rfl⟩ <;> first|(simp (disch:=omega) [g0c,g1c,g2c,g3c,g4c,g10c,g11c,hgd,ltc,e2,e3,hgi];done)|(simp;done)|(simp;omega)|(simp (disch:=omega) [g0c,g1c,g2c,g3c,g4c,g10c,g11c,hgd,ltc,e2,e3,hgi] <;> omega)
 refine .q ?_ (by simp (disch:=first|omega|(simp only[ln];omega)) [g2]; rfl)
 refine .c (t:=decide ((hi : Int) ≤ 2 * (root : Int) + 1)) (fun h18=>?_) (fun h18=>?_)
 ·try simp only[dc]at h18
  rw [siftDown_end _ (by omega)] at hE
  subst hE
  subst hD
  refine .exit ?_
  exact hK _ _ _ _ _ trivial (Fin.m) (⟨rfl,rfl,hnx⟩)
 ·try simp only[dc]at h18
  
  refine .skip ?_
  refine J3 _ ?_
  refine ⟨2 * root + 1,by omega,rfl,by simp,by simp; omega,?_,?_,?_,?_,?_,?_,?_,rfl⟩ <;> first|(simp (disch:=omega) [g0,g1,g2,g3,g4,g10];done)|omega|(simp;done)|(simp;omega)
set_option maxHeartbeats 4000000 in
theorem heapPt_ac {α : Type} [Inhabited α] (P : α → Pt) (cv : α → α → Int) (f : Nat) (caps : List AV) (hc : CmpF Tryz.prog f caps (fun x=>.agg (Pt.cells (P x))) cv) (d : Array α) (n id : Nat) (HP : Heap) (nx : Nat) (hn : d.size = n) (hH : HP id = some (12,rwA (fun x=>(Pt.cells (P x))) d)) (hid : id < nx) (hl : n ≤ 1099511627776) (a b : Nat) (hab : a ≤ b) (hb : b ≤ n) : ACall Tryz.prog 283 [.osl id 0 n,.int .i64 (a : Int),.int .i64 (b : Int),.fn f caps] HP nx (fun r H' nx'=>r = .tup [] ∧ H' = hupd HP id (some (12,rwA (fun x=>(Pt.cells (P x))) (Sort.heapSort (ltc cv) d a b))) ∧ nx ≤ nx'):=by
 obtain ⟨hi,hhi⟩ : ∃ hi,hi = b - a:=⟨_,rfl⟩
 obtain ⟨m0,hm0⟩ : ∃ m0,m0 = (hi - 1) / 2:=⟨_,rfl⟩
 have eh : (b : Int) - (a : Int) = (hi : Int):=by omega
 have e0 : Int.tdiv ((hi : Int) - 1) 2 = (m0 : Int):=tdiv_pred hm0
 have eO : Sort.heapSort (ltc cv) d a b = Sort.heapPop (ltc cv) a hi (Sort.heapBuild (ltc cv) hi a (m0 + 1) d):=by rw [hm0,hhi]; rfl
 refine .b Tryz.func283 60 fun K hK=>?_
 refine .q ?_
 refine .q ?_
 refine .q ?_ (by simp (disch:=first|omega|(simp only[ln];omega)) [eh]; rfl)
 refine .sq fun K4 hK4=>?_
 refine .q ?_ (by simp (disch:=first|omega|(simp only[ln];omega)) [e0]; rfl)
 refine .block ?_
 refine .loop (fun N st=>∃ (k : Nat) (e : Array α) (D : List (List AV)),(N = k) ∧ (k ≤ n + 1) ∧ (e.size = n) ∧ (Sort.heapBuild (ltc cv) hi a k e = Sort.heapBuild (ltc cv) hi a (m0 + 1) d) ∧ (D = rwA (fun x=>(Pt.cells (P x))) e) ∧ (st.heap = hupd HP id (some (12,D))) ∧ (nx ≤ st.nx) ∧ st.env 0 = .osl id 0 n ∧ st.env 1 = .int .i64 (a : Int) ∧ st.env 2 = .int .i64 (b : Int) ∧ st.env 3 = .fn f caps ∧ st.env 8 = .int .i64 (a : Int) ∧ st.env 9 = .int .i64 0 ∧ st.env 10 = .int .i64 (hi : Int) ∧ st.env 11 = .int .i64 ((k : Int) - 1) ∧ st.nt = 60) (m0 + 1) (by refine ⟨m0 + 1,d,_,rfl,by omega,hn,rfl,rfl,(hupd_id hH).symm,by simp,?_,?_,?_,?_,?_,?_,?_,?_,rfl⟩ <;> first|(simp (disch:=omega) [e0];done)|omega|(simp;done)|(simp;omega)|(simp (disch:=omega) [e0] <;> omega)) ?_
 rintro N ⟨e0,H,mm,nt⟩ ⟨k,e,D,hN,hk,he,hE,hD,rfl,hnx,g0,g1,g2,g3,g8,g9,g10,g11,rfl⟩
 simp only [] at g0 g1 g2 g3 g8 g9 g10 g11 hnx
 refine .sq fun K6 hK6=>?_
 refine .q ?_ (by simp (disch:=first|omega|(simp only[ln];omega)) [g11]; rfl)
 refine .c (t:=decide (0 ≤ (k : Int) - 1)) (fun h21=>?_) (fun h21=>?_)
 ·try simp only[dc]at h21
  obtain ⟨j,hj⟩ : ∃ j,j = k - 1:=⟨_,rfl⟩
  have hkj : k = j + 1:=by omega
  have ej : (k : Int) - 1 = (j : Int):=by omega
  refine .skip ?_
  refine hK6 _ ?_
  refine .sq fun K8 hK8=>?_
  refine .block ?_
  refine .region ?_
  refine .k 5 ?_ (by simp (disch:=first|omega|(simp only[ln];omega)) [List.take_succ_cons,List.take_zero,g0,g1,g2,g3,g8,g9,g10,g11,ej]; rfl)
  refine .a (siftPt_ac P cv f caps hc e n id _ _ he (by simp [hD]) (by first|omega|(simp;done)|(simp;omega)) hl j hi a (by omega) (by omega)) hb321 ?_ (ha:=by simp (disch:=first|omega|(simp only[ln];omega)) [idf_Wd',g0,g1,g2,g3,g8,g9,g10,g11,ej])
  rintro _ _ nx3 ⟨rfl,rfl,hnx3⟩
  simp only [] at hnx3
  refine .nil ?_
  refine hK8 _ ?_
  refine .r ?_ (by simp (disch:=first|omega|(simp only[ln];omega)) [g0,g1,g2,g3,g8,g9,g10,g11]; rfl)
  refine ⟨j,by omega,j,Sort.siftDown (ltc cv) hi a j e,_,rfl,by omega,by rw [siftDown_size _ _ _ _ _ _ (Nat.le_refl _)]; exact he,by rw [← hE,hkj]; rfl,rfl,by first|rfl|(simp only [hupd_same];done)|(simp only [hupd_same];rfl),by simp; omega,?_,?_,?_,?_,?_,?_,?_,?_,rfl⟩ <;> first|(simp (disch:=omega) [g0,g1,g2,g3,g8,g9,g10,g11,ej];done)|omega|(simp;done)|(simp;omega)|(simp (disch:=omega) [g0,g1,g2,g3,g8,g9,g10,g11,ej] <;> omega)
 ·try simp only[dc]at h21
  have hk0 : k = 0:=by omega
  subst hk0
  have hE2 : Sort.heapSort (ltc cv) d a b = Sort.heapPop (ltc cv) a hi e:=by rw [eO,← hE]; rfl
  refine .exit ?_
  refine hK4 _ ?_
  refine .q ?_ (by simp (disch:=first|omega|(simp only[ln];omega)) [g0,g1,g2,g3,g8,g9,g10,g11]; rfl)
  refine .block ?_
  refine .loop (fun N st=>∃ (k : Nat) (e : Array α) (D : List (List AV)),(N = k) ∧ (k ≤ hi) ∧ (e.size = n) ∧ (Sort.heapPop (ltc cv) a k e = Sort.heapSort (ltc cv) d a b) ∧ (D = rwA (fun x=>(Pt.cells (P x))) e) ∧ (st.heap = hupd HP id (some (12,D))) ∧ (nx ≤ st.nx) ∧ st.env 0 = .osl id 0 n ∧ st.env 1 = .int .i64 (a : Int) ∧ st.env 2 = .int .i64 (b : Int) ∧ st.env 3 = .fn f caps ∧ st.env 8 = .int .i64 (a : Int) ∧ st.env 9 = .int .i64 0 ∧ st.env 10 = .int .i64 (hi : Int) ∧ st.env 12 = .int .i64 ((k : Int) - 1) ∧ st.nt = 60) (hi) (by refine ⟨hi,e,D,rfl,Nat.le_refl _,he,hE2.symm,hD,by simp,by simp; omega,?_,?_,?_,?_,?_,?_,?_,?_,rfl⟩ <;> first|(simp (disch:=omega) [g0,g1,g2,g3,g8,g9,g10,g11];done)|omega|(simp;done)|(simp;omega)|(simp (disch:=omega) [g0,g1,g2,g3,g8,g9,g10,g11] <;> omega)) ?_
  rintro N ⟨e0,H,mm,nt⟩ ⟨k,e,D,hN,hk,he,hE,hD,rfl,hnx,g0p,g1p,g2p,g3p,g8p,g9p,g10p,g12p,rfl⟩
  simp only [] at g0p g1p g2p g3p g8p g9p g10p g12p hnx
  refine .sq fun K10 hK10=>?_
  refine .q ?_ (by simp (disch:=first|omega|(simp only[ln];omega)) [g12p]; rfl)
  refine .c (t:=decide (0 ≤ (k : Int) - 1)) (fun h33=>?_) (fun h33=>?_)
  ·try simp only[dc]at h33
   obtain ⟨j,hj⟩ : ∃ j,j = k - 1:=⟨_,rfl⟩
   have hkj : k = j + 1:=by omega
   have ej : (k : Int) - 1 = (j : Int):=by omega
   obtain ⟨p,hp⟩ : ∃ p,p = a + j:=⟨_,rfl⟩
   have ep : (a : Int) + (j : Int) = (p : Int):=by omega
   refine .skip ?_
   refine hK10 _ ?_
   refine .sq fun K12 hK12=>?_
   refine .block ?_
   refine .sq fun K13 hK13=>?_
   have ha1 : D[a]? = some (Pt.cells (P (gA e a))):=by rw [hD]; exact rwA_get (by omega)
   have hg1 : ∀ h : a < D.length,D[a] = (Pt.cells (P (gA e a))):=fun h=>by rw [List.getElem?_eq_getElem h] at ha1; simpa using ha1
   have ha2 : D[p]? = some (Pt.cells (P (gA e p))):=by rw [hD]; exact rwA_get (by omega)
   have hg2 : ∀ h : p < D.length,D[p] = (Pt.cells (P (gA e p))):=fun h=>by rw [List.getElem?_eq_getElem h] at ha2; simpa using ha2
   have hset : (D.set a (Pt.cells (P (gA e p)))).set p (Pt.cells (P (gA e a))) = rwA (fun x=>(Pt.cells (P x))) (Sort.swp e a p):=by rw [hD]; exact rwA_swp
   have hcl : D.length = n:=by rw [hD,rwA_len]; assumption
   obtain ⟨row,hr1,hr2⟩ : ∃ row,(D.set a (Pt.cells (P (gA e p))))[p]? = some row ∧ row.length = 12:=by rw [hD]; exact rwA_row (fun _=>rfl) (by omega) (by omega) rfl
   have hr3 : row.drop 12 = []:=List.drop_eq_nil_of_le (by omega)
   have hg3 : ∀ h : p < (D.set a (Pt.cells (P (gA e p)))).length,(D.set a (Pt.cells (P (gA e p))))[p] = row:=fun h=>by rw [List.getElem?_eq_getElem h] at hr1; simpa using hr1
   simp only [Pt.cells] at hr1 hg3
   have hz1 : a < n:=by omega
   have hz2 : p < n:=by omega
   have hz3 : id < mm:=by omega
   refine .sw 17 [2,3,4,5] ?_ (by simp (disch:=first|omega|(simp only[ln];omega)) [if_pos,g0p,g1p,g2p,g3p,g8p,g9p,g10p,g12p,ej,ep,hz3,ha1,ha2,hcl,hg1,hg2,hg3,hr1,hr2,hr3,hz1,hz2,hid,hset,hupd_same,List.length_set]; rfl) (by simp (disch:=first|omega|(simp only[ln];omega)) [if_pos,g0p,g1p,g2p,g3p,g8p,g9p,g10p,g12p,ej,ep,hz3,ha1,ha2,hcl,hg1,hg2,hg3,hr1,hr2,hr3,hz1,hz2,hid,hset,hupd_same,List.length_set]; rfl)
   refine hK13 _ ?_
   
   refine .region ?_
   refine .k 5 ?_ (by simp (disch:=first|omega|(simp only[ln];omega)) [List.take_succ_cons,List.take_zero,g0p,g1p,g2p,g3p,g8p,g9p,g10p,g12p,ej]; rfl)
   refine .a (siftPt_ac P cv f caps hc (Sort.swp e a p) n id _ _ (by rw [Sort.size_swp]; exact he) (by simp only [hupd_same]; exact hupd_at_set hset) (by first|omega|(simp;done)|(simp;omega)) hl 0 j a (by omega) (by omega)) hb321 ?_ (ha:=by simp (disch:=first|omega|(simp only[ln];omega)) [idf_Wd',g0p,g1p,g2p,g3p,g8p,g9p,g10p,g12p,ej])
   rintro _ _ nx3 ⟨rfl,rfl,hnx3⟩
   simp only [] at hnx3
   refine .nil ?_
   refine hK12 _ ?_
   refine .r ?_ (by simp (disch:=first|omega|(simp only[ln];omega)) [g0p,g1p,g2p,g3p,g8p,g9p,g10p,g12p]; rfl)
   refine ⟨j,by omega,j,Sort.siftDown (ltc cv) j a 0 (Sort.swp e a p),_,rfl,by omega,by rw [siftDown_size _ _ _ _ _ _ (Nat.le_refl _)]; rw [Sort.size_swp]; exact he,by rw [← hE,hkj,heapPop_succ,← hp],rfl,by first|rfl|(simp only [hupd_same];done)|(simp only [hupd_same];rfl),by simp; omega,?_,?_,?_,?_,?_,?_,?_,?_,rfl⟩ <;> first|(simp (disch:=omega) [g0p,g1p,g2p,g3p,g8p,g9p,g10p,g12p,ej];done)|omega|(simp;done)|(simp;omega)|(simp (disch:=omega) [g0p,g1p,g2p,g3p,g8p,g9p,g10p,g12p,ej] <;> omega)
  ·try simp only[dc]at h33
   have hk0 : k = 0:=by omega
   subst hk0
   have hE' : e = Sort.heapSort (ltc cv) d a b:=hE
   subst hE'
   subst hD
   refine .exit ?_
   exact hK _ _ _ _ _ trivial (Fin.m) (⟨rfl,rfl,hnx⟩)
set_option maxHeartbeats 4000000 in
theorem revPt_ac {α : Type} [Inhabited α] (P : α → Pt) (cv : α → α → Int) (f : Nat) (caps : List AV) (hc : CmpF Tryz.prog f caps (fun x=>.agg (Pt.cells (P x))) cv) (d : Array α) (n id : Nat) (HP : Heap) (nx : Nat) (hn : d.size = n) (hH : HP id = some (12,rwA (fun x=>(Pt.cells (P x))) d)) (hid : id < nx) (hl : n ≤ 1099511627776) (a b : Nat) (hab : a ≤ b) (hb : b ≤ n) : ACall Tryz.prog 286 [.osl id 0 n,.int .i64 (a : Int),.int .i64 (b : Int),.fn f caps] HP nx (fun r H' nx'=>r = .tup [] ∧ H' = hupd HP id (some (12,rwA (fun x=>(Pt.cells (P x))) (Sort.reverseRange d a b))) ∧ nx ≤ nx'):=by
 refine .b Tryz.func286 34 fun K hK=>?_
 refine .q ?_
 refine .q ?_
 refine .block ?_
 refine .loop (fun N st=>∃ (i j : Nat) (e : Array α) (D : List (List AV)),(N = j - i) ∧ (i ≤ j + 1) ∧ (j ≤ n) ∧ (e.size = n) ∧ (Sort.reverseLoop i (j - 1) e = Sort.reverseRange d a b) ∧ (D = rwA (fun x=>(Pt.cells (P x))) e) ∧ (st.heap = hupd HP id (some (12,D))) ∧ (nx ≤ st.nx) ∧ st.env 0 = .osl id 0 n ∧ st.env 1 = .int .i64 (a : Int) ∧ st.env 2 = .int .i64 (b : Int) ∧ st.env 3 = .fn f caps ∧ st.env 8 = .int .i64 (i : Int) ∧ st.env 9 = .int .i64 ((j : Int) - 1) ∧ st.nt = 34) (b - a) (by refine ⟨a,b,d,_,rfl,by omega,hb,hn,rfl,rfl,(hupd_id hH).symm,by simp,?_,?_,?_,?_,?_,?_,rfl⟩ <;> first|(simp (disch:=omega);done)|omega|(simp;done)|(simp;omega)|(simp (disch:=omega) <;> omega)) ?_
 rintro N ⟨e0,H,mm,nt⟩ ⟨i,j,e,D,rfl,hij,hjn,he,hE,hD,rfl,hnx,g0,g1,g2,g3,g8,g9,rfl⟩
 simp only [] at g0 g1 g2 g3 g8 g9 hnx
 refine .sq fun K3 hK3=>?_
 refine .q ?_ (by simp (disch:=first|omega|(simp only[ln];omega)) [g8,g9]; rfl)
 refine .c (t:=decide ((i : Int) < (j : Int) - 1)) (fun h15=>?_) (fun h15=>?_)
 ·try simp only[dc]at h15
  obtain ⟨q,hq⟩ : ∃ q,q = j - 1:=⟨_,rfl⟩
  have hlt : i < j - 1:=by omega
  have eq : (j : Int) - 1 = (q : Int):=by omega
  refine .skip ?_
  refine hK3 _ ?_
  refine .block ?_
  refine .sq fun K5 hK5=>?_
  have ha1 : D[i]? = some (Pt.cells (P (gA e i))):=by rw [hD]; exact rwA_get (by omega)
  have hg1 : ∀ h : i < D.length,D[i] = (Pt.cells (P (gA e i))):=fun h=>by rw [List.getElem?_eq_getElem h] at ha1; simpa using ha1
  have ha2 : D[q]? = some (Pt.cells (P (gA e q))):=by rw [hD]; exact rwA_get (by omega)
  have hg2 : ∀ h : q < D.length,D[q] = (Pt.cells (P (gA e q))):=fun h=>by rw [List.getElem?_eq_getElem h] at ha2; simpa using ha2
  have hset : (D.set i (Pt.cells (P (gA e q)))).set q (Pt.cells (P (gA e i))) = rwA (fun x=>(Pt.cells (P x))) (Sort.swp e i q):=by rw [hD]; exact rwA_swp
  have hcl : D.length = n:=by rw [hD,rwA_len]; assumption
  obtain ⟨row,hr1,hr2⟩ : ∃ row,(D.set i (Pt.cells (P (gA e q))))[q]? = some row ∧ row.length = 12:=by rw [hD]; exact rwA_row (fun _=>rfl) (by omega) (by omega) rfl
  have hr3 : row.drop 12 = []:=List.drop_eq_nil_of_le (by omega)
  have hg3 : ∀ h : q < (D.set i (Pt.cells (P (gA e q)))).length,(D.set i (Pt.cells (P (gA e q))))[q] = row:=fun h=>by rw [List.getElem?_eq_getElem h] at hr1; simpa using hr1
  simp only [Pt.cells] at hr1 hg3
  have hz1 : i < n:=by omega
  have hz2 : q < n:=by omega
  have hz3 : id < mm:=by omega
  refine .sw 13 [2,3] ?_ (by simp (disch:=first|omega|(simp only[ln];omega)) [if_pos,g0,g1,g2,g3,g8,g9,eq,hz3,ha1,ha2,hcl,hg1,hg2,hg3,hr1,hr2,hr3,hz1,hz2,hid,hset,hupd_same,List.length_set]; rfl) (by simp (disch:=first|omega|(simp only[ln];omega)) [if_pos,g0,g1,g2,g3,g8,g9,eq,hz3,ha1,ha2,hcl,hg1,hg2,hg3,hr1,hr2,hr3,hz1,hz2,hid,hset,hupd_same,List.length_set]; rfl)
  refine hK5 _ ?_
  refine .q ?_ (by simp (disch:=first|omega|(simp only[ln];omega)) [g0,g1,g2,g3,g8,g9]; rfl)
  refine .r ?_ (by simp (disch:=first|omega|(simp only[ln];omega)) [g0,g1,g2,g3,g8,g9]; rfl)
  refine ⟨j - 1 - (i + 1),by omega,i + 1,j - 1,Sort.swp e i q,_,rfl,by omega,by omega,by rw [Sort.size_swp]; exact he,by rw [← hE,reverseLoop_pos hlt,← hq],rfl,by simp only [hupd_same]; exact congrArg (fun x=>hupd HP id (some (12,x))) hset,by simp; omega,?_,?_,?_,?_,?_,?_,rfl⟩ <;> first|(simp (disch:=omega) [g0,g1,g2,g3,g8,g9,eq];done)|omega|(simp;done)|(simp;omega)|(simp (disch:=omega) [g0,g1,g2,g3,g8,g9,eq] <;> omega)
 ·try simp only[dc]at h15
  rw [reverseLoop_neg (by omega)] at hE
  subst hE
  subst hD
  refine .exit ?_
  exact hK _ _ _ _ _ trivial (Fin.m) (⟨rfl,rfl,hnx⟩)
set_option maxHeartbeats 4000000 in
theorem ordPt_ac {α : Type} [Inhabited α] (P : α → Pt) (cv : α → α → Int) (f : Nat) (caps : List AV) (hc : CmpF Tryz.prog f caps (fun x=>.agg (Pt.cells (P x))) cv) (d : Array α) (n id : Nat) (HP : Heap) (nx : Nat) (hn : d.size = n) (hH : HP id = some (12,rwA (fun x=>(Pt.cells (P x))) d)) (hid : id < nx) (hl : n ≤ 1099511627776) (a b : Nat) (ha : a < n) (hb : b < n) (sid w : Nat) (hS : HP sid = some (1,wd .i64 [(w : Int)])) (hsid : sid < nx) (hne : sid ≠ id) (hw : w ≤ 1000) : ACall Tryz.prog 334 [.osl id 0 n,.int .i64 (a : Int),.int .i64 (b : Int),.ptr sid 0 0,.fn f caps] HP nx (fun r H' nx'=>r = .tup [.int .i64 ((Sort.order2 (ltc cv) d a b w).1 : Int),.int .i64 ((Sort.order2 (ltc cv) d a b w).2.1 : Int)] ∧ H' = hupd HP sid (some (1,wd .i64 [((Sort.order2 (ltc cv) d a b w).2.2 : Int)])) ∧ nx ≤ nx'):=by
 refine .b Tryz.func334 32 fun K hK=>?_
 refine .q ?_
 refine .sq fun K2 hK2=>?_
 refine .sq fun K3 hK3=>?_
 obtain ⟨D,hD⟩ : ∃ D,D = rwA (fun x=>(Pt.cells (P x))) d:=⟨_,rfl⟩
 rw [← hD] at hH
 have ha1 : D[b]? = some (Pt.cells (P (gA d b))):=by rw [hD]; exact rwA_get (by omega)
 have hg1 : ∀ h : b < D.length,D[b] = (Pt.cells (P (gA d b))):=fun h=>by rw [List.getElem?_eq_getElem h] at ha1; simpa using ha1
 have ha2 : D[a]? = some (Pt.cells (P (gA d a))):=by rw [hD]; exact rwA_get (by omega)
 have hg2 : ∀ h : a < D.length,D[a] = (Pt.cells (P (gA d a))):=fun h=>by rw [List.getElem?_eq_getElem h] at ha2; simpa using ha2
 have hcl : D.length = n:=by rw [hD,rwA_len]; assumption
 have hz1 : b < n:=by omega
 have hz2 : a < n:=by omega
 refine .d 11 ?_
 refine .k 9 (fun fs4 hfs4=>?_) (by simp (disch:=first|omega|(simp only[ln];omega)) [List.take_succ_cons,List.take_zero,if_pos,hH,ha1,ha2,hcl,hg1,hg2,hz1,hz2,hid]; rfl)
 refine DP.fcall (hc.2 (gA d b) (gA d a)) rfl rfl (by simp; rfl) hc.1 (by simp (disch:=first|omega|(simp only[ln];omega)) [idf_Wd']) (by simp (disch:=first|omega|(simp only[ln];omega))) (by simp) ?_
 simp only [updo]
 refine .k 1 (fun fs5 hfs5=>?_) (by simp (disch:=first|omega|(simp only[ln];omega)) [List.take_succ_cons,List.take_zero,if_pos]; rfl)
 refine .r 11 (by simp only[ln,hfs4,hfs5];omega) ?_ (by simp (disch:=first|omega|(simp only[ln];omega)) [if_pos]; rfl)
 refine hK3 _ ?_
 refine .c (t:=ltc cv (gA d b) (gA d a)) (fun h22=>?_) (fun h22=>?_) (by simp (disch:=first|omega|(simp only[ln];omega)) [ltc])
 ·
  have gtw : gt [(w : Int)] 0 = w:=rfl
  have hO:=order2_pos (a:=a) (b:=b) (w:=w) (d:=d) (lt:=ltc cv) h22
  refine .q ?_ (by simp (disch:=first|omega|(simp only[ln];omega)) [hS,hsid,gtw]; rfl)
  refine .q ?_
  refine .ret ?_
  exact hK _ _ _ _ _ trivial (Fin.m) (⟨by rw [hO],by rw [hO] <;> simp,by first|(simp;done)|(simp;omega)⟩)
 ·
  have hO:=order2_neg (a:=a) (b:=b) (w:=w) (d:=d) (lt:=ltc cv) (by rw [h22]; simp)
  refine .skip ?_
  refine hK2 _ ?_
  refine .q ?_
  refine .ret ?_
  exact hK _ _ _ _ _ trivial (Fin.m) (⟨by rw [hO],by rw [hO,hupd_id hS],by simp⟩)
set_option maxHeartbeats 4000000 in
theorem medPt_ac {α : Type} [Inhabited α] (P : α → Pt) (cv : α → α → Int) (f : Nat) (caps : List AV) (hc : CmpF Tryz.prog f caps (fun x=>.agg (Pt.cells (P x))) cv) (d : Array α) (n id : Nat) (HP : Heap) (nx : Nat) (hn : d.size = n) (hH : HP id = some (12,rwA (fun x=>(Pt.cells (P x))) d)) (hid : id < nx) (hl : n ≤ 1099511627776) (a b c : Nat) (ha : a < n) (hb : b < n) (hcn : c < n) (sid w : Nat) (hS : HP sid = some (1,wd .i64 [(w : Int)])) (hsid : sid < nx) (hne : sid ≠ id) (hw : w ≤ 900) : ACall Tryz.prog 323 [.osl id 0 n,.int .i64 (a : Int),.int .i64 (b : Int),.int .i64 (c : Int),.ptr sid 0 0,.fn f caps] HP nx (fun r H' nx'=>r = .int .i64 ((Sort.median (ltc cv) d a b c w).1 : Int) ∧ H' = hupd HP sid (some (1,wd .i64 [((Sort.median (ltc cv) d a b c w).2 : Int)])) ∧ nx ≤ nx'):=by
 obtain ⟨r1,h1⟩ : ∃ r,r = Sort.order2 (ltc cv) d a b w:=⟨_,rfl⟩
 obtain ⟨r2,h2⟩ : ∃ r,r = Sort.order2 (ltc cv) d r1.2.1 c r1.2.2:=⟨_,rfl⟩
 obtain ⟨r3,h3⟩ : ∃ r,r = Sort.order2 (ltc cv) d r1.1 r2.1 r2.2.2:=⟨_,rfl⟩
 have hM : Sort.median (ltc cv) d a b c w = (r3.2.1,r3.2.2):=by rw [h3,h2,h1]; rfl
 obtain ⟨a1,a2,a3⟩:=order2_in (m:=n) (w:=w) h1 ha hb
 obtain ⟨b1,b2,b3⟩:=order2_in (m:=n) (w:=r1.2.2) h2 a2 hcn
 obtain ⟨c1,c2,c3⟩:=order2_in (m:=n) (w:=r2.2.2) h3 a1 b1
 refine .b Tryz.func323 41 fun K hK=>?_
 refine .q ?_
 refine .sq fun K2 hK2=>?_
 refine .region ?_
 refine .k 5 ?_
 refine .a (ordPt_ac P cv f caps hc d n id _ _ hn hH (by first|omega|(simp;done)|(simp;omega)) hl a b ha hb sid w hS (by first|omega|(simp;done)|(simp;omega)) hne (by omega)) hb334 ?_
 rintro _ _ nx4 ⟨rfl,rfl,hn4⟩
 simp only [] at hn4
 rw [← h1]
 refine .e ?_
 refine hK2 _ ?_
 refine .sq fun K3 hK3=>?_
 refine .region ?_
 refine .k 5 ?_
 refine .a (ordPt_ac P cv f caps hc d n id _ _ hn (by simp (disch:=omega) [hupd,hH,hne.symm]) (by first|omega|(simp;done)|(simp;omega)) hl r1.2.1 c a2 hcn sid r1.2.2 (by simp) (by first|omega|(simp;done)|(simp;omega)) hne (by omega)) hb334 ?_
 rintro _ _ nx5 ⟨rfl,rfl,hn5⟩
 simp only [] at hn5
 rw [← h2]
 simp only [hupd_same]
 refine .e ?_
 refine hK3 _ ?_
 refine .sq fun K4 hK4=>?_
 refine .region ?_
 refine .k 5 ?_
 refine .a (ordPt_ac P cv f caps hc d n id _ _ hn (by simp (disch:=omega) [hupd,hH,hne.symm]) (by first|omega|(simp;done)|(simp;omega)) hl r1.1 r2.1 a1 b1 sid r2.2.2 (by simp) (by first|omega|(simp;done)|(simp;omega)) hne (by omega)) hb334 ?_
 rintro _ _ nx6 ⟨rfl,rfl,hn6⟩
 simp only [] at hn6
 rw [← h3]
 simp only [hupd_same]
 refine .e ?_
 refine hK4 _ ?_
 refine .q ?_
 refine .ret ?_
 exact hK _ _ _ _ _ trivial (Fin.m) (⟨by rw [hM],by rw [hM],by simp; omega⟩)
set_option maxHeartbeats 4000000 in
theorem mdjPt_ac {α : Type} [Inhabited α] (P : α → Pt) (cv : α → α → Int) (f : Nat) (caps : List AV) (hc : CmpF Tryz.prog f caps (fun x=>.agg (Pt.cells (P x))) cv) (d : Array α) (n id : Nat) (HP : Heap) (nx : Nat) (hn : d.size = n) (hH : HP id = some (12,rwA (fun x=>(Pt.cells (P x))) d)) (hid : id < nx) (hl : n ≤ 1099511627776) (a : Nat) (ha : 1 ≤ a) (hb : a + 1 < n) (sid w : Nat) (hS : HP sid = some (1,wd .i64 [(w : Int)])) (hsid : sid < nx) (hne : sid ≠ id) (hw : w ≤ 900) : ACall Tryz.prog 322 [.osl id 0 n,.int .i64 (a : Int),.ptr sid 0 0,.fn f caps] HP nx (fun r H' nx'=>r = .int .i64 ((Sort.medianAdjacent (ltc cv) d a w).1 : Int) ∧ H' = hupd HP sid (some (1,wd .i64 [((Sort.medianAdjacent (ltc cv) d a w).2 : Int)])) ∧ nx ≤ nx'):=by
 obtain ⟨am,hm⟩ : ∃ x,x = a - 1:=⟨_,rfl⟩
 obtain ⟨ap,hp⟩ : ∃ x,x = a + 1:=⟨_,rfl⟩
 have ea : (a : Int) - 1 = (am : Int):=by omega
 have eb : (a : Int) + 1 = (ap : Int):=by omega
 have hM : (Sort.medianAdjacent (ltc cv) d a w) = Sort.median (ltc cv) d am a ap w:=by rw [hm,hp]; rfl
 refine .b Tryz.func322 18 fun K hK=>?_
 refine .q ?_
 refine .sq fun K2 hK2=>?_
 refine .region ?_
 refine .k 8 ?_ (by simp (disch:=first|omega|(simp only[ln];omega)) [List.take_succ_cons,List.take_zero,ea,eb]; rfl)
 refine .a (medPt_ac P cv f caps hc d n id _ _ hn hH (by first|omega|(simp;done)|(simp;omega)) hl am a ap (by omega) (by omega) (by omega) sid w hS hsid hne hw) hb323 ?_ (ha:=by simp (disch:=first|omega|(simp only[ln];omega)) [idf_Wd',ea,eb])
 rintro _ _ nx4 ⟨rfl,rfl,hn4⟩
 simp only [] at hn4
 rw [← hM]
 refine .e ?_ (by simp (disch:=first|omega|(simp only[ln];omega)) [ea,eb]; rfl)
 refine hK2 _ ?_
 refine .ret ?_
 exact hK _ _ _ _ _ trivial (Fin.m) (⟨rfl,rfl,by simp; omega⟩)
set_option maxHeartbeats 4000000 in
theorem pvtPt_ac {α : Type} [Inhabited α] (P : α → Pt) (cv : α → α → Int) (f : Nat) (caps : List AV) (hc : CmpF Tryz.prog f caps (fun x=>.agg (Pt.cells (P x))) cv) (d : Array α) (n id : Nat) (HP : Heap) (nx : Nat) (hn : d.size = n) (hH : HP id = some (12,rwA (fun x=>(Pt.cells (P x))) d)) (hid : id < nx) (hl : n ≤ 1099511627776) (a b : Nat) (hab : a < b) (hb : b ≤ n) : ACall Tryz.prog 285 [.osl id 0 n,.int .i64 (a : Int),.int .i64 (b : Int),.fn f caps] HP nx (fun r H' nx'=>r = .tup [.int .i64 ((pvV (ltc cv) d a b).1 : Int),.int .i64 (hnt (pvV (ltc cv) d a b).2)] ∧ H' = HP ∧ nx ≤ nx'):=by
 obtain ⟨l,hll⟩ : ∃ l,l = b - a:=⟨_,rfl⟩
 obtain ⟨q,hq⟩ : ∃ q,q = l / 4:=⟨_,rfl⟩
 obtain ⟨x0,hx0⟩ : ∃ x,x = a + q * 1:=⟨_,rfl⟩
 obtain ⟨y0,hy0⟩ : ∃ x,x = a + q * 2:=⟨_,rfl⟩
 obtain ⟨z0,hz0⟩ : ∃ x,x = a + q * 3:=⟨_,rfl⟩
 have el : (b : Int) - (a : Int) = (l : Int):=by omega
 have eq4 : Int.tdiv (l : Int) 4 = (q : Int):=by rw [hq]; exact (Int.ofNat_tdiv l 4).symm
 have ex : (a : Int) + (q : Int) = (x0 : Int):=by omega
 have ey : (a : Int) + (q : Int) * 2 = (y0 : Int):=by omega
 have ez : (a : Int) + (q : Int) * 3 = (z0 : Int):=by omega
 have hne : ¬ id = nx:=by omega
 have hne' : ¬ nx = id:=by omega
 refine .b Tryz.func285 63 fun K hK=>?_
 refine .old fun hold=>?_
 simp only [] at hold
 refine .q ?_
 refine .q ?_ (by simp (disch:=first|omega|(simp only[ln];omega)) [el]; rfl)
 refine .q ?_
 refine .q ?_ (by simp (disch:=first|omega|(simp only[ln];omega)) [el,eq4,ex,Int.mul_one]; rfl)
 refine .q ?_ (by simp (disch:=first|omega|(simp only[ln];omega)) [eq4,ey]; rfl)
 refine .q ?_ (by simp (disch:=first|omega|(simp only[ln];omega)) [eq4,ez]; rfl)
 refine .sq fun K7 hK7=>?_
 have J7 : ∀ s : St,(∃ (v w : Nat),((pvV (ltc cv) d a b) = (v,w)) ∧ (w ≤ 900) ∧ (∀ k,k < nx → s.heap k = HP k) ∧ (nx < s.nx) ∧ s.env 0 = .osl id 0 n ∧ s.env 1 = .int .i64 (a : Int) ∧ s.env 2 = .int .i64 (b : Int) ∧ s.env 3 = .fn f caps ∧ s.env 11 = .ptr nx 0 0 ∧ s.env 13 = .int .i64 (v : Int) ∧ s.heap nx = some (1,wd .i64 [(w : Int)]) ∧ nx < s.nx ∧ s.nt = 63) → K7 s:=by
  rintro ⟨e0,H,mm,nt⟩ ⟨v,w,hV,hw,hh,hnj,g0j,g1j,g2j,g3j,g11j,g13j,Hsj,xsj,rfl⟩
  simp only [] at g0j g1j g2j g3j g11j g13j Hsj xsj
  simp only [] at hnj hh
  refine hK7 _ ?_
  have gtw : gt [(w : Int)] 0 = w:=rfl
  refine .q ?_ (by simp (disch:=first|omega|(simp only[ln];omega)) [g11j,Hsj,gtw]; rfl)
  refine .block ?_
  refine .q ?_
  refine .c (t:=(w : Int) == 0) (fun h57=>?_) (fun h57=>?_)
  ·try simp only[dc]at h57
   have hw0 : w = 0:=by simpa using h57
   refine .q ?_ (by simp (disch:=first|omega|(simp only[ln];omega)) [g13j]; rfl)
   refine .ret ?_
   exact hK _ _ _ _ _ trivial ((Fin.m).restr (fun i=>decide (i < nx))) (⟨by rw [hV]; simp [hnt,hw0],hrestr_old hold hh,by first|(simp;done)|(simp;omega)⟩)
  ·try simp only[dc]at h57
   have hw0 : ¬ w = 0:=by simpa using h57
   refine .q ?_
   refine .c (t:=(w : Int) == 12) (fun h60=>?_) (fun h60=>?_)
   ·try simp only[dc]at h60
    have hw1 : w = 12:=by have:=eq_of_beq h60; omega
    refine .q ?_ (by simp (disch:=first|omega|(simp only[ln];omega)) [g13j]; rfl)
    refine .ret ?_
    exact hK _ _ _ _ _ trivial ((Fin.m).restr (fun i=>decide (i < nx))) (⟨by rw [hV]; simp [hnt,hw1],hrestr_old hold hh,by first|(simp;done)|(simp;omega)⟩)
   ·try simp only[dc]at h60
    have hw1 : ¬ w = 12:=by intro h; subst h; simp at h60
    refine .q ?_ (by simp (disch:=first|omega|(simp only[ln];omega)) [g13j]; rfl)
    refine .ret ?_
    exact hK _ _ _ _ _ trivial ((Fin.m).restr (fun i=>decide (i < nx))) (⟨by rw [hV]; simp [hnt,hw0,hw1],hrestr_old hold hh,by first|(simp;done)|(simp;omega)⟩)
 refine .q ?_
 refine .c (t:=decide (8 ≤ (l : Int))) (fun h34=>?_) (fun h34=>?_)
 ·try simp only[dc]at h34
  have h8 : 8 ≤ l:=by omega
  refine .sq fun K15 hK15=>?_
  have J15 : ∀ s : St,(∃ (x y z w : Nat),((pvV (ltc cv) d a b) = Sort.median (ltc cv) d x y z w) ∧ (x < n ∧ y < n ∧ z < n) ∧ (w ≤ 800) ∧ (∀ k,k < nx → s.heap k = HP k) ∧ (nx < s.nx) ∧ s.env 0 = .osl id 0 n ∧ s.env 1 = .int .i64 (a : Int) ∧ s.env 2 = .int .i64 (b : Int) ∧ s.env 3 = .fn f caps ∧ s.env 10 = .int .i64 (l : Int) ∧ s.env 11 = .ptr nx 0 0 ∧ s.env 12 = .int .i64 (x : Int) ∧ s.env 13 = .int .i64 (y : Int) ∧ s.env 14 = .int .i64 (z : Int) ∧ s.heap nx = some (1,wd .i64 [(w : Int)]) ∧ nx < s.nx ∧ s.nt = 63) → K15 s:=by
   rintro ⟨e0,H,mm,nt⟩ ⟨x,y,z,w,hV,hxn,hw,hh,hnj,g0m,g1m,g2m,g3m,g10m,g11m,g12m,g13m,g14m,Hsm,xsm,rfl⟩
   simp only [] at g0m g1m g2m g3m g10m g11m g12m g13m g14m Hsm xsm
   simp only [] at hnj hh
   refine hK15 _ ?_
   refine .region ?_
   refine .k 5 ?_ (by simp (disch:=first|omega|(simp only[ln];omega)) [List.take_succ_cons,List.take_zero,g0m,g1m,g2m,g3m,g10m,g11m,g12m,g13m,g14m,Hsm]; rfl)
   refine .a (medPt_ac P cv f caps hc d n id _ _ hn (by simp only []; rw [hh _ hid]; exact hH) (by first|omega|(simp;done)|(simp;omega)) hl x y z hxn.1 hxn.2.1 hxn.2.2 nx w (by simp [Hsm]) (by first|omega|(simp;done)|(simp;omega)) hne' (by omega)) hb323 ?_ (ha:=by simp (disch:=first|omega|(simp only[ln];omega)) [idf_Wd',g0m,g1m,g2m,g3m,g10m,g11m,g12m,g13m,g14m,Hsm])
   rintro _ _ n4 ⟨rfl,rfl,hn4⟩
   simp only [] at hn4
   obtain ⟨v4,hv4⟩ : ∃ v,v = Sort.median (ltc cv) d x y z w:=⟨_,rfl⟩
   have hw4:=med_in hv4
   rw [← hv4]
   refine .e ?_ (by simp (disch:=first|omega|(simp only[ln];omega)) [g0m,g1m,g2m,g3m,g10m,g11m,g12m,g13m,g14m,Hsm]; rfl)
   refine J7 _ ?_
   refine ⟨v4.1,v4.2,by rw [hV,hv4],by omega,fun k hk=>by simp [hupd,hh k hk,Nat.ne_of_lt hk],by first|(simp;done)|(simp;omega),?_,?_,?_,?_,?_,?_,?_,?_,rfl⟩ <;> first|(simp (disch:=omega) [g0m,g1m,g2m,g3m,g10m,g11m,g12m,g13m,g14m,Hsm];done)|(simp (disch:=omega) [hupd,g0m,g1m,g2m,g3m,g10m,g11m,g12m,g13m,g14m,Hsm];done)|omega|(simp;omega)|(simp [hupd];rfl)
  refine .q ?_
  refine .c (t:=decide (50 ≤ (l : Int))) (fun h36=>?_) (fun h36=>?_)
  ·try simp only[dc]at h36
   have h50 : 50 ≤ l:=by omega
   refine .sq fun K17 hK17=>?_
   refine .region ?_
   refine .k 3 ?_
   refine .a (mdjPt_ac P cv f caps hc d n id _ _ hn (by simp (disch:=omega) [hupd,hne,hH]) (by first|omega|(simp;done)|(simp;omega)) hl x0 (by omega) (by omega) nx 0 (by simp (disch:=omega) [hupd]) (by first|omega|(simp;done)|(simp;omega)) hne' (by omega)) hb322 ?_
   rintro _ _ n1 ⟨rfl,rfl,hn1⟩
   simp only [hupd_same] at hn1 ⊢
   obtain ⟨v1,hv1⟩ : ∃ v,v = Sort.medianAdjacent (ltc cv) d x0 0:=⟨_,rfl⟩
   obtain ⟨k1,w1⟩:=mdj_in hv1
   rw [← hv1]
   refine .e ?_
   refine hK17 _ ?_
   refine .sq fun K18 hK18=>?_
   refine .region ?_
   refine .k 3 ?_
   refine .a (mdjPt_ac P cv f caps hc d n id _ _ hn (by simp (disch:=omega) [hupd,hne,hH]) (by first|omega|(simp;done)|(simp;omega)) hl y0 (by omega) (by omega) nx v1.2 (by simp (disch:=omega) [hupd]) (by first|omega|(simp;done)|(simp;omega)) hne' (by omega)) hb322 ?_
   rintro _ _ n2 ⟨rfl,rfl,hn2⟩
   simp only [hupd_same] at hn2 ⊢
   obtain ⟨v2,hv2⟩ : ∃ v,v = Sort.medianAdjacent (ltc cv) d y0 v1.2:=⟨_,rfl⟩
   obtain ⟨k2,w2⟩:=mdj_in hv2
   rw [← hv2]
   refine .e ?_
   refine hK18 _ ?_
   refine .region ?_
   refine .k 3 ?_
   refine .a (mdjPt_ac P cv f caps hc d n id _ _ hn (by simp (disch:=omega) [hupd,hne,hH]) (by first|omega|(simp;done)|(simp;omega)) hl z0 (by omega) (by omega) nx v2.2 (by simp (disch:=omega) [hupd]) (by first|omega|(simp;done)|(simp;omega)) hne' (by omega)) hb322 ?_
   rintro _ _ n3 ⟨rfl,rfl,hn3⟩
   simp only [hupd_same] at hn3 ⊢
   obtain ⟨v3,hv3⟩ : ∃ v,v = Sort.medianAdjacent (ltc cv) d z0 v2.2:=⟨_,rfl⟩
   obtain ⟨k3,w3⟩:=mdj_in hv3
   rw [← hv3]
   refine .e ?_
   refine J15 _ ?_
   refine ⟨v1.1,v2.1,v3.1,v3.2,by rw [hv3,hv2,hv1,hx0,hy0,hz0,hq,hll]; exact pvV_hi _ (by omega),⟨by omega,by omega,by omega⟩,by omega,fun k hk=>by simp [hupd,Nat.ne_of_lt hk],by first|(simp;done)|(simp;omega),?_,?_,?_,?_,?_,?_,?_,?_,?_,?_,?_,rfl⟩ <;> first|(simp (disch:=omega);done)|(simp (disch:=omega) [hupd];done)|omega|(simp;omega)|(simp [hupd];rfl)
  ·try simp only[dc]at h36
   have h50 : ¬ 50 ≤ l:=by omega
   refine .skip ?_
   refine J15 _ ?_
   refine ⟨x0,y0,z0,0,by rw [hx0,hy0,hz0,hq,hll]; exact pvV_mid _ (by omega) (by omega),⟨by omega,by omega,by omega⟩,by omega,fun k hk=>by simp [hupd,Nat.ne_of_lt hk],by first|(simp;done)|(simp;omega),?_,?_,?_,?_,?_,?_,?_,?_,?_,?_,?_,rfl⟩ <;> first|(simp (disch:=omega);done)|(simp (disch:=omega) [hupd];done)|omega|(simp;omega)|(simp [hupd];rfl)
 ·try simp only[dc]at h34
  have h8 : ¬ 8 ≤ l:=by omega
  refine .skip ?_
  refine J7 _ ?_
  refine ⟨y0,0,by rw [hy0,hq,hll]; exact pvV_lo _ (by omega),by omega,fun k hk=>by simp [hupd,Nat.ne_of_lt hk],by first|(simp;done)|(simp;omega),?_,?_,?_,?_,?_,?_,?_,?_,rfl⟩ <;> first|(simp (disch:=omega);done)|(simp (disch:=omega) [hupd];done)|omega|(simp;omega)|(simp [hupd];rfl)
set_option maxHeartbeats 4000000 in
theorem brkPt_ac {α : Type} [Inhabited α] (P : α → Pt) (cv : α → α → Int) (f : Nat) (caps : List AV) (hc : CmpF Tryz.prog f caps (fun x=>.agg (Pt.cells (P x))) cv) (d : Array α) (n id : Nat) (HP : Heap) (nx : Nat) (hn : d.size = n) (hH : HP id = some (12,rwA (fun x=>(Pt.cells (P x))) d)) (hid : id < nx) (hl : n ≤ 1099511627776) (a b : Nat) (hab : a ≤ b) (hb : b ≤ n) : ACall Tryz.prog 284 [.osl id 0 n,.int .i64 (a : Int),.int .i64 (b : Int),.fn f caps] HP nx (fun r H' nx'=>r = .tup [] ∧ H' = hupd HP id (some (12,rwA (fun x=>(Pt.cells (P x))) (Sort.breakPatterns d a b))) ∧ nx ≤ nx'):=by
 obtain ⟨l,hll⟩ : ∃ l,l = b - a:=⟨_,rfl⟩
 have el : (b : Int) - (a : Int) = (l : Int):=by omega
 refine .b Tryz.func284 67 fun K hK=>?_
 refine .old fun hold=>?_
 simp only [] at hold
 refine .q ?_ (by simp (disch:=first|omega|(simp only[ln];omega)) [el]; rfl)
 refine .q ?_
 refine .c (t:=decide (8 ≤ (l : Int))) (fun h17=>?_) (fun h17=>?_)
 ·try simp only[dc]at h17
  have h8 : 8 ≤ l:=by omega
  obtain ⟨q1,q2,q3⟩:=pow_bits (l:=l) (by omega) (by omega)
  obtain ⟨q,hq⟩ : ∃ q,q = l / 4:=⟨_,rfl⟩
  have eq4 : Int.tdiv (l : Int) 4 = (q : Int):=by rw [hq]; exact (Int.ofNat_tdiv l 4).symm
  obtain ⟨x0,hx0⟩ : ∃ x,x = a + q * 2:=⟨_,rfl⟩
  obtain ⟨i0,hi0⟩ : ∃ x,x = x0 - 1:=⟨_,rfl⟩
  have ex : (a : Int) + (q : Int) * 2 = (x0 : Int):=by omega
  have ei : (x0 : Int) - 1 = (i0 : Int):=by omega
  have eO:=brk_eq d a b (by omega)
  obtain ⟨m,hm⟩ : ∃ m,m = 1 <<< Sort.bitsLen l:=⟨_,rfl⟩
  rw [← hll,← hq,← hx0,← hi0,← hm] at eO
  rw [← hm] at q1 q2
  have hne : ¬ id = nx:=by omega
  have hne' : ¬ nx = id:=by omega
  have eu : (UInt64.ofNat l).toNat = l:=by rw [UInt64.toNat_ofNat']; exact Nat.mod_eq_of_lt (by omega)
  refine .q ?_
  refine .sq fun K4 hK4=>?_
  refine .region ?_
  refine .kf 1 (nextPow_fc l m (by omega) (by omega) hm) hb292 ?_
  refine .e ?_
  refine hK4 _ ?_
  refine .q ?_ (by simp (disch:=first|omega|(simp only[ln];omega)) [eq4,ex,ei]; rfl)
  refine .block ?_
  refine .loop (fun N st=>∃ (k p : Nat) (D : List (List AV)),(N = 3 - k) ∧ (k ≤ 3) ∧ (p = i0 + k) ∧ (D = rwA (fun x=>(Pt.cells (P x))) (brkI d a l m i0 k).2) ∧ (∀ k,k < nx → k ≠ id → st.heap k = HP k) ∧ (nx < st.nx) ∧ st.env 0 = .osl id 0 n ∧ st.env 1 = .int .i64 (a : Int) ∧ st.env 2 = .int .i64 (b : Int) ∧ st.env 3 = .fn f caps ∧ st.env 8 = .int .i64 (l : Int) ∧ st.env 9 = .ptr nx 0 0 ∧ st.env 10 = .int .u64 (m : Int) ∧ st.env 11 = .int .i64 (p : Int) ∧ st.heap id = some (12,D) ∧ id < st.nx ∧ st.heap nx = some (1,wd .u64 [((brkI d a l m i0 k).1.toNat : Int)]) ∧ nx < st.nx ∧ st.nt = 67) (3) (by refine ⟨0,i0,_,rfl,by omega,rfl,rfl,fun k hk hk2=>by simp [hupd,Nat.ne_of_lt hk],by simp,?_,?_,?_,?_,?_,?_,?_,?_,?_,?_,?_,?_,rfl⟩ <;> first|(simp (disch:=omega) [brkI,eu];done)|(simp [hupd,hne,brkI,eu];done)|(simp [hupd,hne,hH];rfl)|omega|(simp;omega)) ?_
  rintro N ⟨e0,H,mm,nt⟩ ⟨k,p,D,rfl,hk,hp,hD,hh,hnx,g0,g1,g2,g3,g8,g9,g10,g11,Hd,xd,Hs,xs,rfl⟩
  simp only [] at g0 g1 g2 g3 g8 g9 g10 g11 Hd xd Hs xs hh hnx
  refine .sq fun K6 hK6=>?_
  refine .q ?_ (by simp (disch:=first|omega|(simp only[ln];omega)) [g0,g1,g2,g3,g8,g9,g10,g11,Hd,Hs,eq4,ex]; rfl)
  refine .c (t:=decide ((p : Int) ≤ (x0 : Int) + 1)) (fun h35=>?_) (fun h35=>?_)
  ·try simp only[dc]at h35
   have hk3 : k < 3:=by omega
   obtain ⟨R,hR⟩ : ∃ R,R = Sort.xorNext (brkI d a l m i0 k).1:=⟨_,rfl⟩
   obtain ⟨w,hw⟩ : ∃ w,w = R.toNat &&& (m - 1):=⟨_,rfl⟩
   have hwm : w ≤ m - 1:=by rw [hw]; exact Nat.and_le_right
   have em : (m : Int) - 1 = ((m - 1 : Nat) : Int):=by omega
   have ew : bits .and .u64 (R.toNat : Int) ((m - 1 : Nat) : Int) = (w : Int):=by rw [xs_and R _ (by omega),hw]
   refine .skip ?_
   refine hK6 _ ?_
   refine .sq fun K8 hK8=>?_
   refine .block ?_
   refine .sq fun K9 hK9=>?_
   refine .region ?_
   refine .a (xnext_ac (brkI d a l m i0 k).1 nx _ _ Hs (by first|omega|(simp;omega))) hb293 ?_ (ha:=by simp (disch:=first|omega|(simp only[ln];omega)) [idf_Wd',g0,g1,g2,g3,g8,g9,g10,g11,Hd,Hs,ew,em])
   rintro _ _ n4 ⟨rfl,rfl,hn4⟩
   simp only [] at hn4
   rw [← hR]
   refine .e ?_ (by simp (disch:=first|omega|(simp only[ln];omega)) [g0,g1,g2,g3,g8,g9,g10,g11,Hd,Hs,ew,em]; rfl)
   refine hK9 _ ?_
   refine .sq fun K10 hK10=>?_
   have J10 : ∀ s : St,(∃ (o : Nat),(o = brkO R l m) ∧ (∀ k,k < nx → k ≠ id → s.heap k = HP k) ∧ (nx < s.nx) ∧ s.env 0 = .osl id 0 n ∧ s.env 1 = .int .i64 (a : Int) ∧ s.env 2 = .int .i64 (b : Int) ∧ s.env 3 = .fn f caps ∧ s.env 8 = .int .i64 (l : Int) ∧ s.env 9 = .ptr nx 0 0 ∧ s.env 10 = .int .u64 (m : Int) ∧ s.env 11 = .int .i64 (p : Int) ∧ s.env 12 = .int .i64 (o : Int) ∧ s.heap id = some (12,D) ∧ id < s.nx ∧ s.heap nx = some (1,wd .u64 [((brkI d a l m i0 (k + 1)).1.toNat : Int)]) ∧ nx < s.nx ∧ s.nt = 67) → K10 s:=by
    rintro ⟨e0,H,mm,nt⟩ ⟨o,ho,hhj,hnj,g0j,g1j,g2j,g3j,g8j,g9j,g10j,g11j,g12j,Hdj,xdj,Hsj,xsj,rfl⟩
    simp only [] at g0j g1j g2j g3j g8j g9j g10j g11j g12j Hdj xdj Hsj xsj
    simp only [] at hnj hhj
    have hol:=brkO_lt R (l:=l) (m:=m) (by omega) q1 (by omega)
    rw [← ho] at hol
    obtain ⟨y,hy⟩ : ∃ y,y = a + o:=⟨_,rfl⟩
    have ey : (a : Int) + (o : Int) = (y : Int):=by omega
    refine hK10 _ ?_
    have hsz : (brkI d a l m i0 k).2.size = n:=by rw [brkI_size]; exact hn
    have ha1 : D[p]? = some (Pt.cells (P (gA (brkI d a l m i0 k).2 p))):=by rw [hD]; exact rwA_get (by omega)
    have hg1 : ∀ h : p < D.length,D[p] = (Pt.cells (P (gA (brkI d a l m i0 k).2 p))):=fun h=>by rw [List.getElem?_eq_getElem h] at ha1; simpa using ha1
    have ha2 : D[y]? = some (Pt.cells (P (gA (brkI d a l m i0 k).2 y))):=by rw [hD]; exact rwA_get (by omega)
    have hg2 : ∀ h : y < D.length,D[y] = (Pt.cells (P (gA (brkI d a l m i0 k).2 y))):=fun h=>by rw [List.getElem?_eq_getElem h] at ha2; simpa using ha2
    have hset : (D.set p (Pt.cells (P (gA (brkI d a l m i0 k).2 y)))).set y (Pt.cells (P (gA (brkI d a l m i0 k).2 p))) = rwA (fun x=>(Pt.cells (P x))) (Sort.swp (brkI d a l m i0 k).2 p y):=by rw [hD]; exact rwA_swp
    have hcl : D.length = n:=by rw [hD,rwA_len]; assumption
    obtain ⟨row,hr1,hr2⟩ : ∃ row,(D.set p (Pt.cells (P (gA (brkI d a l m i0 k).2 y))))[y]? = some row ∧ row.length = 12:=by rw [hD]; exact rwA_row (fun _=>rfl) (by omega) (by omega) rfl
    have hr3 : row.drop 12 = []:=List.drop_eq_nil_of_le (by omega)
    have hg3 : ∀ h : y < (D.set p (Pt.cells (P (gA (brkI d a l m i0 k).2 y)))).length,(D.set p (Pt.cells (P (gA (brkI d a l m i0 k).2 y))))[y] = row:=fun h=>by rw [List.getElem?_eq_getElem h] at hr1; simpa using hr1
    simp only [Pt.cells] at hr1 hg3
    have hz1 : p < n:=by omega
    have hz2 : y < n:=by omega
    have hz3 : id < mm:=by omega
    refine .sw 17 [2,3,4,5] ?_ (by simp (disch:=first|omega|(simp only[ln];omega)) [if_pos,g0j,g1j,g2j,g3j,g8j,g9j,g10j,g11j,g12j,Hdj,Hsj,ey,hz3,ha1,ha2,hcl,hg1,hg2,hg3,hr1,hr2,hr3,hz1,hz2,hid,hset,hupd_same,List.length_set]; rfl) (by simp (disch:=first|omega|(simp only[ln];omega)) [if_pos,g0j,g1j,g2j,g3j,g8j,g9j,g10j,g11j,g12j,Hdj,Hsj,ey,hz3,ha1,ha2,hcl,hg1,hg2,hg3,hr1,hr2,hr3,hz1,hz2,hid,hset,hupd_same,List.length_set]; rfl)
    refine hK8 _ ?_
    refine .r ?_ (by simp (disch:=first|omega|(simp only[ln];omega)) [g0j,g1j,g2j,g3j,g8j,g9j,g10j,g11j,g12j,Hdj,Hsj]; rfl)
    refine ⟨3 - (k + 1),by omega,k + 1,p + 1,rwA (fun x=>(Pt.cells (P x))) (Sort.swp (brkI d a l m i0 k).2 p y),rfl,by omega,by omega,by rw [brkI_succ,← hR,← ho,← hy,← hp],fun i h1 h2=>by simp [hupd,h2,Nat.ne_of_lt h1]; exact hhj i h1 h2,by simp; omega,?_,?_,?_,?_,?_,?_,?_,?_,?_,?_,?_,?_,rfl⟩ <;> first|(simp (disch:=omega) [g0j,g1j,g2j,g3j,g8j,g9j,g10j,g11j,g12j,Hdj,Hsj];done)|(simp [hupd,hne',Hsj];done)|(simp [hupd];exact hset)|omega|(simp;done)|(simp;omega)
   refine .q ?_ (by simp (disch:=first|omega|(simp only[ln];omega)) [g0,g1,g2,g3,g8,g9,g10,g11,Hd,Hs]; rfl)
   refine .c (t:=decide ((l : Int) ≤ (w : Int))) (fun h45=>?_) (fun h45=>?_) (by simp (disch:=first|omega|(simp only[ln];omega)) [g0,g1,g2,g3,g8,g9,g10,g11,Hd,Hs])
   ·try simp only[dc]at h45
    have hbo : brkO R l m = w - l:=by unfold brkO; rw [← hw,if_pos (by omega)]
    refine .r ?_ (by simp (disch:=first|omega|(simp only[ln];omega)) [g0,g1,g2,g3,g8,g9,g10,g11,Hd,Hs]; rfl)
    refine J10 _ ?_
    refine ⟨w - l,hbo.symm,fun i h1 h2=>by simp [hupd,Nat.ne_of_lt h1,hh i h1 h2],by simp; omega,?_,?_,?_,?_,?_,?_,?_,?_,?_,?_,?_,?_,?_,rfl⟩ <;> first|(simp (disch:=omega) [g0,g1,g2,g3,g8,g9,g10,g11,Hd,Hs,ew];done)|(simp [hupd,hne,Hd];done)|(simp [hupd,← hR];rfl)|(simp [hupd,hR];rfl)|omega|(simp;omega)
   ·try simp only[dc]at h45
    have hbo : brkO R l m = w:=by unfold brkO; rw [← hw,if_neg (by omega)]
    refine .skip ?_
    refine J10 _ ?_
    refine ⟨w,hbo.symm,fun i h1 h2=>by simp [hupd,Nat.ne_of_lt h1,hh i h1 h2],by simp; omega,?_,?_,?_,?_,?_,?_,?_,?_,?_,?_,?_,?_,?_,rfl⟩ <;> first|(simp (disch:=omega) [g0,g1,g2,g3,g8,g9,g10,g11,Hd,Hs,ew];done)|(simp [hupd,hne,Hd];done)|(simp [hupd,← hR];rfl)|(simp [hupd,hR];rfl)|omega|(simp;omega)
  ·try simp only[dc]at h35
   have hk3 : k = 3:=by omega
   subst hk3
   rw [← eO] at hD
   subst hD
   refine .exit ?_
   exact hK _ _ _ _ _ trivial ((Fin.m).restr (fun i=>decide (i < nx))) (⟨rfl,hrestr_oldU hold hid Hd hh,by simp; omega⟩)
 ·try simp only[dc]at h17
  rw [brk_no d a b (by omega)] at *
  refine .skip ?_
  exact hK _ _ _ _ _ trivial ((Fin.m).restr (fun i=>decide (i < nx))) (⟨rfl,by rw [hupd_id hH]; exact hrestr_old hold (fun _ _=>rfl),by simp⟩)
set_option maxHeartbeats 4000000 in
theorem parPt_ac {α : Type} [Inhabited α] (P : α → Pt) (cv : α → α → Int) (f : Nat) (caps : List AV) (hc : CmpF Tryz.prog f caps (fun x=>.agg (Pt.cells (P x))) cv) (d : Array α) (n id : Nat) (HP : Heap) (nx : Nat) (hn : d.size = n) (hH : HP id = some (12,rwA (fun x=>(Pt.cells (P x))) d)) (hid : id < nx) (hl : n ≤ 1099511627776) (a b : Nat) (hab : a < b) (hb : b ≤ n) : ACall Tryz.prog 287 [.osl id 0 n,.int .i64 (a : Int),.int .i64 (b : Int),.fn f caps] HP nx (fun r H' nx'=>r = .bool (Sort.partialInsertionSort (ltc cv) d a b).2 ∧ H' = hupd HP id (some (12,rwA (fun x=>(Pt.cells (P x))) (Sort.partialInsertionSort (ltc cv) d a b).1)) ∧ nx ≤ nx'):=by
 refine .b Tryz.func287 141 fun K hK=>?_
 refine .q ?_
 refine .q ?_
 refine .sq fun K3 hK3=>?_
 refine .q ?_
 refine .block ?_
 refine .loop (fun N st=>∃ (j i : Nat) (e : Array α) (D : List (List AV)),(N = 5 - j) ∧ (j ≤ 5) ∧ (a + 1 ≤ i) ∧ (i ≤ b) ∧ (e.size = n) ∧ (Sort.partialIns (ltc cv) a b (5 - j) i e = (Sort.partialInsertionSort (ltc cv) d a b)) ∧ (D = rwA (fun x=>(Pt.cells (P x))) e) ∧ (st.heap = hupd HP id (some (12,D))) ∧ (nx ≤ st.nx) ∧ st.env 0 = .osl id 0 n ∧ st.env 1 = .int .i64 (a : Int) ∧ st.env 2 = .int .i64 (b : Int) ∧ st.env 3 = .fn f caps ∧ st.env 8 = .bool false ∧ st.env 9 = .int .i64 (i : Int) ∧ st.env 10 = .int .i64 (j : Int) ∧ st.nt = 141) (5) (by refine ⟨0,a + 1,d,_,rfl,by omega,by omega,by omega,hn,rfl,rfl,(hupd_id hH).symm,by simp,?_,?_,?_,?_,?_,?_,?_,rfl⟩ <;> first|(simp (disch:=omega);done)|omega|(simp;done)|(simp;omega)) ?_
 rintro N ⟨e0,H,mm,nt⟩ ⟨j,i,e,D,rfl,hj,hi1,hi2,he,hE,hD,rfl,hnx,g0,g1,g2,g3,g8,g9,g10,rfl⟩
 simp only [] at g0 g1 g2 g3 g8 g9 g10 hnx
 refine .sq fun K5 hK5=>?_
 refine .q ?_ (by simp (disch:=first|omega|(simp only[ln];omega)) [g10]; rfl)
 refine .c (t:=decide ((j : Int) < 5)) (fun h16=>?_) (fun h16=>?_)
 ·try simp only[dc]at h16
  have hj5 : j < 5:=by omega
  refine .skip ?_
  refine hK5 _ ?_
  refine .sq fun K7 hK7=>?_
  have J7 : ∀ s : St,(∃ (k : Nat) (e3 : Array α) (D3 : List (List AV)),(a + 1 ≤ k) ∧ (k ≤ b) ∧ (e3.size = n) ∧ (Sort.partialIns (ltc cv) a b (5 - (j + 1)) k e3 = (Sort.partialInsertionSort (ltc cv) d a b)) ∧ (D3 = rwA (fun x=>(Pt.cells (P x))) e3) ∧ (s.heap = hupd HP id (some (12,D3))) ∧ (nx ≤ s.nx) ∧ s.env 0 = .osl id 0 n ∧ s.env 1 = .int .i64 (a : Int) ∧ s.env 2 = .int .i64 (b : Int) ∧ s.env 3 = .fn f caps ∧ s.env 8 = .bool false ∧ s.env 9 = .int .i64 (k : Int) ∧ s.env 10 = .int .i64 (j : Int) ∧ s.nt = 141) → K7 s:=by
   rintro ⟨e0,H,mm,nt⟩ ⟨k,e3,D3,hk1,hk2,hz3,hE3,hD3,rfl,hn3,g0w,g1w,g2w,g3w,g8w,g9w,g10w,rfl⟩
   simp only [] at g0w g1w g2w g3w g8w g9w g10w
   simp only [] at hn3
   refine hK7 _ ?_
   refine .r ?_ (by simp (disch:=first|omega|(simp only[ln];omega)) [g0w,g1w,g2w,g3w,g8w,g9w,g10w]; rfl)
   refine ⟨5 - (j + 1),by omega,j + 1,k,e3,D3,rfl,by omega,by omega,by omega,hz3,hE3,hD3,by simp,by simp; omega,?_,?_,?_,?_,?_,?_,?_,rfl⟩ <;> first|(simp (disch:=omega) [g0w,g1w,g2w,g3w,g8w,g9w,g10w];done)|omega|(simp;done)|(simp;omega)
  refine .block ?_
  refine .sq fun K8 hK8=>?_
  refine .block ?_
  refine .loop (fun N st=>∃ (k : Nat),(N = b - k) ∧ (i ≤ k) ∧ (k ≤ b) ∧ (Sort.scanSorted (ltc cv) e b k = Sort.scanSorted (ltc cv) e b i) ∧ (st.heap = hupd HP id (some (12,D))) ∧ (nx ≤ st.nx) ∧ st.env 0 = .osl id 0 n ∧ st.env 1 = .int .i64 (a : Int) ∧ st.env 2 = .int .i64 (b : Int) ∧ st.env 3 = .fn f caps ∧ st.env 8 = .bool false ∧ st.env 9 = .int .i64 (k : Int) ∧ st.env 10 = .int .i64 (j : Int) ∧ st.nt = 141) (b - i) (by refine ⟨i,rfl,Nat.le_refl _,hi2,rfl,by simp,by simp; omega,?_,?_,?_,?_,?_,?_,?_,rfl⟩ <;> first|(simp (disch:=omega) [g0,g1,g2,g3,g8,g9,g10];done)|omega|(simp;done)|(simp;omega)) ?_
  rintro N ⟨e0,H,mm,nt⟩ ⟨k,rfl,hk1,hk2,hS,rfl,hns,g0s,g1s,g2s,g3s,g8s,g9s,g10s,rfl⟩
  simp only [] at g0s g1s g2s g3s g8s g9s g10s hns
  have hkm : (k : Int) - 1 = ((k - 1 : Nat) : Int):=by omega
  refine .sq fun K9 hK9=>?_
  refine .sq fun K10 hK10=>?_
  have J10 : ∀ s : St,((s.heap = hupd HP id (some (12,D))) ∧ (nx ≤ s.nx) ∧ s.env 0 = .osl id 0 n ∧ s.env 1 = .int .i64 (a : Int) ∧ s.env 2 = .int .i64 (b : Int) ∧ s.env 3 = .fn f caps ∧ s.env 8 = .bool false ∧ s.env 9 = .int .i64 (k : Int) ∧ s.env 10 = .int .i64 (j : Int) ∧ s.env 36 = .bool (decide (k < b ∧ ltc cv (gA e k) (gA e (k - 1)) = false)) ∧ s.nt = 141) → K10 s:=by
   rintro ⟨e0,H,mm,nt⟩ ⟨rfl,hnsq,g0q,g1q,g2q,g3q,g8q,g9q,g10q,g36q,rfl⟩
   simp only [] at g0q g1q g2q g3q g8q g9q g10q g36q
   simp only [] at hnsq
   refine hK10 _ ?_
   refine .c (t:=decide (k < b ∧ ltc cv (gA e k) (gA e (k - 1)) = false)) (fun h36=>?_) (fun h36=>?_) (by simp (disch:=first|omega|(simp only[ln];omega)) [g36q])
   ·simp only [dc] at h36
    refine .skip ?_
    refine hK9 _ ?_
    refine .block ?_
    refine .r ?_ (by simp (disch:=first|omega|(simp only[ln];omega)) [g0q,g1q,g2q,g3q,g8q,g9q,g10q,g36q]; rfl)
    refine ⟨b - (k + 1),by omega,k + 1,rfl,by omega,by omega,by rw [← hS,scanSorted_pos _ h36.1 h36.2],by simp,by simp; omega,?_,?_,?_,?_,?_,?_,?_,rfl⟩ <;> first|(simp (disch:=omega) [g0q,g1q,g2q,g3q,g8q,g9q,g10q,g36q];done)|omega|(simp;done)|(simp;omega)
   ·simp only [dc] at h36
    rw [scanSorted_neg _ h36] at hS
    refine .exit ?_
    refine hK8 _ ?_
    refine .sq fun K11 hK11=>?_
    refine .q ?_ (by simp (disch:=first|omega|(simp only[ln];omega)) [g0q,g1q,g2q,g3q,g8q,g9q,g10q,g36q]; rfl)
    refine .c (t:=(k : Int) == (b : Int)) (fun h41=>?_) (fun h41=>?_)
    ·
     have hkb : k = b:=by have:=eq_of_beq h41; omega
     have hO:=partialIns_end (lt:=ltc cv) (a:=a) (s:=5 - (j + 1)) hS hkb
     rw [show 5 - (j + 1) + 1 = 5 - j by omega,hE] at hO
     refine .q ?_ (by simp (disch:=first|omega|(simp only[ln];omega)) [g0q,g1q,g2q,g3q,g8q,g9q,g10q,g36q]; rfl)
     refine .ret ?_
     exact hK _ _ _ _ _ trivial (Fin.m) (⟨by rw [hO],by rw [hO,hD],by simp; omega⟩)
    ·
     have hkb : ¬ k = b:=by intro h; subst h; simp at h41
     refine .skip ?_
     refine hK11 _ ?_
     refine .sq fun K14 hK14=>?_
     refine .q ?_ (by simp (disch:=first|omega|(simp only[ln];omega)) [g0q,g1q,g2q,g3q,g8q,g9q,g10q,g36q]; rfl)
     refine .c (t:=decide ((b : Int) - (a : Int) < 50)) (fun h45=>?_) (fun h45=>?_)
     ·try simp only[dc]at h45
      have h50 : b - a < 50:=by omega
      have hO:=partialIns_few (lt:=ltc cv) (a:=a) (s:=5 - (j + 1)) hS hkb h50
      rw [show 5 - (j + 1) + 1 = 5 - j by omega,hE] at hO
      refine .q ?_ (by simp (disch:=first|omega|(simp only[ln];omega)) [g0q,g1q,g2q,g3q,g8q,g9q,g10q,g36q]; rfl)
      refine .ret ?_
      exact hK _ _ _ _ _ trivial (Fin.m) (⟨by rw [hO],by rw [hO,hD],by simp; omega⟩)
     ·try simp only[dc]at h45
      have h50 : ¬ b - a < 50:=by omega
      refine .skip ?_
      refine hK14 _ ?_
      refine .sq fun K17 hK17=>?_
      have ha1 : D[k]? = some (Pt.cells (P (gA e k))):=by rw [hD]; exact rwA_get (by omega)
      have hg1 : ∀ h : k < D.length,D[k] = (Pt.cells (P (gA e k))):=fun h=>by rw [List.getElem?_eq_getElem h] at ha1; simpa using ha1
      have ha2 : D[(k - 1)]? = some (Pt.cells (P (gA e (k - 1)))):=by rw [hD]; exact rwA_get (by omega)
      have hg2 : ∀ h : (k - 1) < D.length,D[(k - 1)] = (Pt.cells (P (gA e (k - 1)))):=fun h=>by rw [List.getElem?_eq_getElem h] at ha2; simpa using ha2
      have hset : (D.set k (Pt.cells (P (gA e (k - 1))))).set (k - 1) (Pt.cells (P (gA e k))) = rwA (fun x=>(Pt.cells (P x))) (Sort.swp e k (k - 1)):=by rw [hD]; exact rwA_swp
      have hcl : D.length = n:=by rw [hD,rwA_len]; assumption
      obtain ⟨row,hr1,hr2⟩ : ∃ row,(D.set k (Pt.cells (P (gA e (k - 1)))))[(k - 1)]? = some row ∧ row.length = 12:=by rw [hD]; exact rwA_row (fun _=>rfl) (by omega) (by omega) rfl
      have hr3 : row.drop 12 = []:=List.drop_eq_nil_of_le (by omega)
      have hg3 : ∀ h : (k - 1) < (D.set k (Pt.cells (P (gA e (k - 1))))).length,(D.set k (Pt.cells (P (gA e (k - 1)))))[(k - 1)] = row:=fun h=>by rw [List.getElem?_eq_getElem h] at hr1; simpa using hr1
      simp only [Pt.cells] at hr1 hg3
      have hz1 : k < n:=by omega
      have hz2 : (k - 1) < n:=by omega
      have hz3 : id < mm:=by omega
      refine .sw 15 [2,3,4] ?_ (by simp (disch:=first|omega|(simp only[ln];omega)) [if_pos,g0q,g1q,g2q,g3q,g8q,g9q,g10q,g36q,hkm,hz3,ha1,ha2,hcl,hg1,hg2,hg3,hr1,hr2,hr3,hz1,hz2,hid,hset,hupd_same,List.length_set]; rfl) (by simp (disch:=first|omega|(simp only[ln];omega)) [if_pos,g0q,g1q,g2q,g3q,g8q,g9q,g10q,g36q,hkm,hz3,ha1,ha2,hcl,hg1,hg2,hg3,hr1,hr2,hr3,hz1,hz2,hid,hset,hupd_same,List.length_set]; rfl)
      obtain ⟨e1,he1⟩ : ∃ x,x = Sort.swp e k (k - 1):=⟨_,rfl⟩
      rw [← he1] at hset
      have hz1' : e1.size = n:=by rw [he1,Sort.size_swp]; exact he
      have hD1:=hset
      refine hK17 _ ?_
      refine .sq fun K18 hK18=>?_
      have J18 : ∀ s : St,(∃ (e2 : Array α) (D2 : List (List AV)),(e2 = if k - a ≥ 2 then Sort.shiftDown (ltc cv) (k - 1) e1 else e1) ∧ (e2.size = n) ∧ (D2 = rwA (fun x=>(Pt.cells (P x))) e2) ∧ (s.heap = hupd HP id (some (12,D2))) ∧ (nx ≤ s.nx) ∧ s.env 0 = .osl id 0 n ∧ s.env 1 = .int .i64 (a : Int) ∧ s.env 2 = .int .i64 (b : Int) ∧ s.env 3 = .fn f caps ∧ s.env 8 = .bool false ∧ s.env 9 = .int .i64 (k : Int) ∧ s.env 10 = .int .i64 (j : Int) ∧ s.nt = 141) → K18 s:=by
       rintro ⟨e0,H,mm,nt⟩ ⟨e2,D2,he2,hz2',hD2,rfl,hn2,g0u,g1u,g2u,g3u,g8u,g9u,g10u,rfl⟩
       simp only [] at g0u g1u g2u g3u g8u g9u g10u
       simp only [] at hn2
       refine hK18 _ ?_
       refine .q ?_ (by simp (disch:=first|omega|(simp only[ln];omega)) [g0u,g1u,g2u,g3u,g8u,g9u,g10u]; rfl)
       refine .c (t:=decide (2 ≤ (b : Int) - (k : Int))) (fun h104=>?_) (fun h104=>?_)
       ·try simp only[dc]at h104
        have hbk : b - k ≥ 2:=by omega
        refine .q ?_ (by simp (disch:=first|omega|(simp only[ln];omega)) [g0u,g1u,g2u,g3u,g8u,g9u,g10u]; rfl)
        refine .block ?_
        refine .loop (fun N st=>∃ (p : Nat) (c : Array α) (Dc : List (List AV)),(N = b - p) ∧ (1 ≤ p) ∧ (p ≤ b) ∧ (c.size = n) ∧ (Sort.shiftUp (ltc cv) b p c = Sort.shiftUp (ltc cv) b (k + 1) e2) ∧ (Dc = rwA (fun x=>(Pt.cells (P x))) c) ∧ (st.heap = hupd HP id (some (12,Dc))) ∧ (nx ≤ st.nx) ∧ st.env 0 = .osl id 0 n ∧ st.env 1 = .int .i64 (a : Int) ∧ st.env 2 = .int .i64 (b : Int) ∧ st.env 3 = .fn f caps ∧ st.env 8 = .bool false ∧ st.env 9 = .int .i64 (k : Int) ∧ st.env 10 = .int .i64 (j : Int) ∧ st.env 12 = .int .i64 (p : Int) ∧ st.nt = 141) (b - (k + 1)) (by refine ⟨k + 1,e2,D2,rfl,by omega,by omega,hz2',rfl,hD2,by simp,by simp; omega,?_,?_,?_,?_,?_,?_,?_,?_,rfl⟩ <;> first|(simp (disch:=omega) [g0u,g1u,g2u,g3u,g8u,g9u,g10u];done)|omega|(simp;done)|(simp;omega)|(simp (disch:=omega) [g0u,g1u,g2u,g3u,g8u,g9u,g10u] <;> omega)) ?_
        rintro N ⟨e0,H,mm,nt⟩ ⟨p,c,Dc,rfl,hp0,hp,hcz,hC,hDc,rfl,hnd,g0p,g1p,g2p,g3p,g8p,g9p,g10p,g12p,rfl⟩
        simp only [] at g0p g1p g2p g3p g8p g9p g10p g12p hnd
        refine .sq fun K21 hK21=>?_
        refine .q ?_ (by simp (disch:=first|omega|(simp only[ln];omega)) [g12p,g2p]; rfl)
        refine .c (t:=decide ((p : Int) < (b : Int))) (fun h109=>?_) (fun h109=>?_)
        ·try simp only[dc]at h109
         have h109' : p < b:=by omega
         have hpm : (p : Int) - 1 = ((p - 1 : Nat) : Int):=by omega
         refine .skip ?_
         refine hK21 _ ?_
         refine .sq fun K23 hK23=>?_
         refine .block ?_
         refine .sq fun K24 hK24=>?_
         refine .sq fun K25 hK25=>?_
         have ha1 : Dc[p]? = some (Pt.cells (P (gA c p))):=by rw [hDc]; exact rwA_get (by omega)
         have hg1 : ∀ h : p < Dc.length,Dc[p] = (Pt.cells (P (gA c p))):=fun h=>by rw [List.getElem?_eq_getElem h] at ha1; simpa using ha1
         have ha2 : Dc[(p - 1)]? = some (Pt.cells (P (gA c (p - 1)))):=by rw [hDc]; exact rwA_get (by omega)
         have hg2 : ∀ h : (p - 1) < Dc.length,Dc[(p - 1)] = (Pt.cells (P (gA c (p - 1)))):=fun h=>by rw [List.getElem?_eq_getElem h] at ha2; simpa using ha2
         have hcl : Dc.length = n:=by rw [hDc,rwA_len]; assumption
         have hz1 : p < n:=by omega
         have hz2 : (p - 1) < n:=by omega
         refine .d 13 ?_
         refine .k 10 (fun fs26 hfs26=>?_) (by simp (disch:=first|omega|(simp only[ln];omega)) [List.take_succ_cons,List.take_zero,if_pos,g0p,g1p,g2p,g3p,g8p,g9p,g10p,g12p,hpm,ha1,ha2,hcl,hg1,hg2,hz1,hz2,hid]; rfl)
         refine DP.fcall (hc.2 (gA c p) (gA c (p - 1))) rfl rfl (by simp; rfl) hc.1 (by simp (disch:=first|omega|(simp only[ln];omega)) [idf_Wd']) (by simp (disch:=first|omega|(simp only[ln];omega))) (by simp) ?_
         simp only [updo]
         refine .k 2 (fun fs27 hfs27=>?_) (by simp (disch:=first|omega|(simp only[ln];omega)) [List.take_succ_cons,List.take_zero,if_pos]; rfl)
         refine .r 13 (by simp only[ln,hfs26,hfs27];omega) ?_ (by simp (disch:=first|omega|(simp only[ln];omega)) [if_pos]; rfl)
         refine hK25 _ ?_
         refine .c (t:=!(ltc cv (gA c p) (gA c (p - 1)))) (fun h124=>?_) (fun h124=>?_) (by simp (disch:=first|omega|(simp only[ln];omega)) [ltc])
         ·
          have hend:=shiftUp_neg (d:=c) (j:=p) (b:=b) (ltc cv) (fun h=>by rw [h.2] at h124; simp at h124)
          refine .exit ?_
          refine J7 _ ?_
          refine ⟨k,c,Dc,by omega,by omega,hcz,by rw [← hE,show 5 - j = 5 - (j + 1) + 1 by omega,partialIns_go hS hkb h50,← he1,← he2,if_pos hbk,← hC,hend],hDc,by simp,by simp; omega,?_,?_,?_,?_,?_,?_,?_,rfl⟩ <;> first|(simp (disch:=omega) [g0p,g1p,g2p,g3p,g8p,g9p,g10p,g12p];done)|omega|(simp;done)|(simp;omega)
         ·
          replace h124 : ltc cv (gA c p) (gA c (p - 1)) = true:=by simpa using h124
          refine .skip ?_
          refine hK24 _ ?_
          have ha1 : Dc[p]? = some (Pt.cells (P (gA c p))):=by rw [hDc]; exact rwA_get (by omega)
          have hg1 : ∀ h : p < Dc.length,Dc[p] = (Pt.cells (P (gA c p))):=fun h=>by rw [List.getElem?_eq_getElem h] at ha1; simpa using ha1
          have ha2 : Dc[(p - 1)]? = some (Pt.cells (P (gA c (p - 1)))):=by rw [hDc]; exact rwA_get (by omega)
          have hg2 : ∀ h : (p - 1) < Dc.length,Dc[(p - 1)] = (Pt.cells (P (gA c (p - 1)))):=fun h=>by rw [List.getElem?_eq_getElem h] at ha2; simpa using ha2
          have hset : (Dc.set p (Pt.cells (P (gA c (p - 1))))).set (p - 1) (Pt.cells (P (gA c p))) = rwA (fun x=>(Pt.cells (P x))) (Sort.swp c p (p - 1)):=by rw [hDc]; exact rwA_swp
          have hcl : Dc.length = n:=by rw [hDc,rwA_len]; assumption
          obtain ⟨row,hr1,hr2⟩ : ∃ row,(Dc.set p (Pt.cells (P (gA c (p - 1)))))[(p - 1)]? = some row ∧ row.length = 12:=by rw [hDc]; exact rwA_row (fun _=>rfl) (by omega) (by omega) rfl
          have hr3 : row.drop 12 = []:=List.drop_eq_nil_of_le (by omega)
          have hg3 : ∀ h : (p - 1) < (Dc.set p (Pt.cells (P (gA c (p - 1))))).length,(Dc.set p (Pt.cells (P (gA c (p - 1)))))[(p - 1)] = row:=fun h=>by rw [List.getElem?_eq_getElem h] at hr1; simpa using hr1
          simp only [Pt.cells] at hr1 hg3
          have hz1 : p < n:=by omega
          have hz2 : (p - 1) < n:=by omega
          have hz3 : id < mm:=by omega
          refine .sw 15 [2,3,4] ?_ (by simp (disch:=first|omega|(simp only[ln];omega)) [if_pos,g0p,g1p,g2p,g3p,g8p,g9p,g10p,g12p,hpm,hz3,ha1,ha2,hcl,hg1,hg2,hg3,hr1,hr2,hr3,hz1,hz2,hid,hset,hupd_same,List.length_set]; rfl) (by simp (disch:=first|omega|(simp only[ln];omega)) [if_pos,g0p,g1p,g2p,g3p,g8p,g9p,g10p,g12p,hpm,hz3,ha1,ha2,hcl,hg1,hg2,hg3,hr1,hr2,hr3,hz1,hz2,hid,hset,hupd_same,List.length_set]; rfl)
          refine hK23 _ ?_
          refine .r ?_ (by simp (disch:=first|omega|(simp only[ln];omega)) [g0p,g1p,g2p,g3p,g8p,g9p,g10p,g12p]; rfl)
          refine ⟨b - (p + 1),by omega,p + 1,Sort.swp c p (p - 1),_,rfl,by omega,by omega,by rw [Sort.size_swp]; exact hcz,by rw [← hC,shiftUp_pos _ h109' h124],rfl,by simp only [hupd_same]; exact congrArg (fun x=>hupd HP id (some (12,x))) hset,by simp; omega,?_,?_,?_,?_,?_,?_,?_,?_,rfl⟩ <;> first|(simp (disch:=omega) [g0p,g1p,g2p,g3p,g8p,g9p,g10p,g12p];done)|omega|(simp;done)|(simp;omega)|(simp (disch:=omega) [g0p,g1p,g2p,g3p,g8p,g9p,g10p,g12p] <;> omega)
        ·try simp only[dc]at h109
         have hend:=shiftUp_neg (d:=c) (j:=p) (b:=b) (ltc cv) (fun h=>by omega)
         refine .exit ?_
         refine J7 _ ?_
         refine ⟨k,c,Dc,by omega,by omega,hcz,by rw [← hE,show 5 - j = 5 - (j + 1) + 1 by omega,partialIns_go hS hkb h50,← he1,← he2,if_pos hbk,← hC,hend],hDc,by simp,by simp; omega,?_,?_,?_,?_,?_,?_,?_,rfl⟩ <;> first|(simp (disch:=omega) [g0p,g1p,g2p,g3p,g8p,g9p,g10p,g12p];done)|omega|(simp;done)|(simp;omega)
       ·try simp only[dc]at h104
        have hbk : ¬ b - k ≥ 2:=by omega
        refine .skip ?_
        refine J7 _ ?_
        refine ⟨k,e2,D2,by omega,by omega,hz2',by rw [← hE,show 5 - j = 5 - (j + 1) + 1 by omega,partialIns_go hS hkb h50,← he1,← he2,if_neg hbk],hD2,by simp,by simp; omega,?_,?_,?_,?_,?_,?_,?_,rfl⟩ <;> first|(simp (disch:=omega) [g0u,g1u,g2u,g3u,g8u,g9u,g10u];done)|omega|(simp;done)|(simp;omega)
      refine .q ?_ (by simp (disch:=first|omega|(simp only[ln];omega)) [g0q,g1q,g2q,g3q,g8q,g9q,g10q,g36q]; rfl)
      refine .c (t:=decide (2 ≤ (k : Int) - (a : Int))) (fun h65=>?_) (fun h65=>?_)
      ·try simp only[dc]at h65
       have hka : k - a ≥ 2:=by omega
       refine .q ?_ (by simp (disch:=first|omega|(simp only[ln];omega)) [g0q,g1q,g2q,g3q,g8q,g9q,g10q,g36q]; rfl)
       refine .block ?_
       refine .loop (fun N st=>∃ (p : Nat) (c : Array α) (Dc : List (List AV)),(N = p) ∧ (p < k) ∧ (c.size = n) ∧ (Sort.shiftDown (ltc cv) p c = Sort.shiftDown (ltc cv) (k - 1) e1) ∧ (Dc = rwA (fun x=>(Pt.cells (P x))) c) ∧ (st.heap = hupd HP id (some (12,Dc))) ∧ (nx ≤ st.nx) ∧ st.env 0 = .osl id 0 n ∧ st.env 1 = .int .i64 (a : Int) ∧ st.env 2 = .int .i64 (b : Int) ∧ st.env 3 = .fn f caps ∧ st.env 8 = .bool false ∧ st.env 9 = .int .i64 (k : Int) ∧ st.env 10 = .int .i64 (j : Int) ∧ st.env 11 = .int .i64 (p : Int) ∧ st.nt = 141) (k - 1) (by refine ⟨k - 1,e1,_,rfl,by omega,hz1',rfl,hD1,by first|rfl|(simp only [hupd_same];done)|(simp only [hupd_same];rfl),by simp; omega,?_,?_,?_,?_,?_,?_,?_,?_,rfl⟩ <;> first|(simp (disch:=omega) [g0q,g1q,g2q,g3q,g8q,g9q,g10q,g36q,hkm];done)|omega|(simp;done)|(simp;omega)|(simp (disch:=omega) [g0q,g1q,g2q,g3q,g8q,g9q,g10q,g36q,hkm] <;> omega)) ?_
       rintro N ⟨e0,H,mm,nt⟩ ⟨p,c,Dc,hN,hp,hcz,hC,hDc,rfl,hnd,g0d,g1d,g2d,g3d,g8d,g9d,g10d,g11d,rfl⟩
       simp only [] at g0d g1d g2d g3d g8d g9d g10d g11d hnd
       refine .sq fun K30 hK30=>?_
       refine .q ?_ (by simp (disch:=first|omega|(simp only[ln];omega)) [g11d]; rfl)
       refine .c (t:=decide (1 ≤ (p : Int))) (fun h69=>?_) (fun h69=>?_)
       ·try simp only[dc]at h69
        have h69' : 1 ≤ p:=by omega
        have hpm : (p : Int) - 1 = ((p - 1 : Nat) : Int):=by omega
        refine .skip ?_
        refine hK30 _ ?_
        refine .sq fun K32 hK32=>?_
        refine .block ?_
        refine .sq fun K33 hK33=>?_
        refine .sq fun K34 hK34=>?_
        have ha1 : Dc[p]? = some (Pt.cells (P (gA c p))):=by rw [hDc]; exact rwA_get (by omega)
        have hg1 : ∀ h : p < Dc.length,Dc[p] = (Pt.cells (P (gA c p))):=fun h=>by rw [List.getElem?_eq_getElem h] at ha1; simpa using ha1
        have ha2 : Dc[(p - 1)]? = some (Pt.cells (P (gA c (p - 1)))):=by rw [hDc]; exact rwA_get (by omega)
        have hg2 : ∀ h : (p - 1) < Dc.length,Dc[(p - 1)] = (Pt.cells (P (gA c (p - 1)))):=fun h=>by rw [List.getElem?_eq_getElem h] at ha2; simpa using ha2
        have hcl : Dc.length = n:=by rw [hDc,rwA_len]; assumption
        have hz1 : p < n:=by omega
        have hz2 : (p - 1) < n:=by omega
        refine .d 13 ?_
        refine .k 10 (fun fs35 hfs35=>?_) (by simp (disch:=first|omega|(simp only[ln];omega)) [List.take_succ_cons,List.take_zero,if_pos,g0d,g1d,g2d,g3d,g8d,g9d,g10d,g11d,hpm,ha1,ha2,hcl,hg1,hg2,hz1,hz2,hid]; rfl)
        refine DP.fcall (hc.2 (gA c p) (gA c (p - 1))) rfl rfl (by simp; rfl) hc.1 (by simp (disch:=first|omega|(simp only[ln];omega)) [idf_Wd']) (by simp (disch:=first|omega|(simp only[ln];omega))) (by simp) ?_
        simp only [updo]
        refine .k 2 (fun fs36 hfs36=>?_) (by simp (disch:=first|omega|(simp only[ln];omega)) [List.take_succ_cons,List.take_zero,if_pos]; rfl)
        refine .r 13 (by simp only[ln,hfs35,hfs36];omega) ?_ (by simp (disch:=first|omega|(simp only[ln];omega)) [if_pos]; rfl)
        refine hK34 _ ?_
        refine .c (t:=!(ltc cv (gA c p) (gA c (p - 1)))) (fun h84=>?_) (fun h84=>?_) (by simp (disch:=first|omega|(simp only[ln];omega)) [ltc])
        ·
         have hend:=shiftDown_neg (d:=c) (j:=p) (ltc cv) (fun h=>by rw [h.2] at h84; simp at h84)
         refine .exit ?_
         refine J18 _ ?_
         refine ⟨c,Dc,by rw [if_pos hka,← hC,hend],hcz,hDc,by simp,by simp; omega,?_,?_,?_,?_,?_,?_,?_,rfl⟩ <;> first|(simp (disch:=omega) [g0d,g1d,g2d,g3d,g8d,g9d,g10d,g11d];done)|omega|(simp;done)|(simp;omega)
        ·
         replace h84 : ltc cv (gA c p) (gA c (p - 1)) = true:=by simpa using h84
         refine .skip ?_
         refine hK33 _ ?_
         have ha1 : Dc[p]? = some (Pt.cells (P (gA c p))):=by rw [hDc]; exact rwA_get (by omega)
         have hg1 : ∀ h : p < Dc.length,Dc[p] = (Pt.cells (P (gA c p))):=fun h=>by rw [List.getElem?_eq_getElem h] at ha1; simpa using ha1
         have ha2 : Dc[(p - 1)]? = some (Pt.cells (P (gA c (p - 1)))):=by rw [hDc]; exact rwA_get (by omega)
         have hg2 : ∀ h : (p - 1) < Dc.length,Dc[(p - 1)] = (Pt.cells (P (gA c (p - 1)))):=fun h=>by rw [List.getElem?_eq_getElem h] at ha2; simpa using ha2
         have hset : (Dc.set p (Pt.cells (P (gA c (p - 1))))).set (p - 1) (Pt.cells (P (gA c p))) = rwA (fun x=>(Pt.cells (P x))) (Sort.swp c p (p - 1)):=by rw [hDc]; exact rwA_swp
         have hcl : Dc.length = n:=by rw [hDc,rwA_len]; assumption
         obtain ⟨row,hr1,hr2⟩ : ∃ row,(Dc.set p (Pt.cells (P (gA c (p - 1)))))[(p - 1)]? = some row ∧ row.length = 12:=by rw [hDc]; exact rwA_row (fun _=>rfl) (by omega) (by omega) rfl
         have hr3 : row.drop 12 = []:=List.drop_eq_nil_of_le (by omega)
         have hg3 : ∀ h : (p - 1) < (Dc.set p (Pt.cells (P (gA c (p - 1))))).length,(Dc.set p (Pt.cells (P (gA c (p - 1)))))[(p - 1)] = row:=fun h=>by rw [List.getElem?_eq_getElem h] at hr1; simpa using hr1
         simp only [Pt.cells] at hr1 hg3
         have hz1 : p < n:=by omega
         have hz2 : (p - 1) < n:=by omega
         have hz3 : id < mm:=by omega
         refine .sw 15 [2,3,4] ?_ (by simp (disch:=first|omega|(simp only[ln];omega)) [if_pos,g0d,g1d,g2d,g3d,g8d,g9d,g10d,g11d,hpm,hz3,ha1,ha2,hcl,hg1,hg2,hg3,hr1,hr2,hr3,hz1,hz2,hid,hset,hupd_same,List.length_set]; rfl) (by simp (disch:=first|omega|(simp only[ln];omega)) [if_pos,g0d,g1d,g2d,g3d,g8d,g9d,g10d,g11d,hpm,hz3,ha1,ha2,hcl,hg1,hg2,hg3,hr1,hr2,hr3,hz1,hz2,hid,hset,hupd_same,List.length_set]; rfl)
         refine hK32 _ ?_
         refine .r ?_ (by simp (disch:=first|omega|(simp only[ln];omega)) [g0d,g1d,g2d,g3d,g8d,g9d,g10d,g11d]; rfl)
         refine ⟨p - 1,by omega,p - 1,Sort.swp c p (p - 1),_,rfl,by omega,by rw [Sort.size_swp]; exact hcz,by rw [← hC,shiftDown_pos _ h69' h84],rfl,by simp only [hupd_same]; exact congrArg (fun x=>hupd HP id (some (12,x))) hset,by simp; omega,?_,?_,?_,?_,?_,?_,?_,?_,rfl⟩ <;> first|(simp (disch:=omega) [g0d,g1d,g2d,g3d,g8d,g9d,g10d,g11d,hpm];done)|omega|(simp;done)|(simp;omega)|(simp (disch:=omega) [g0d,g1d,g2d,g3d,g8d,g9d,g10d,g11d,hpm] <;> omega)
       ·try simp only[dc]at h69
        have hend:=shiftDown_neg (d:=c) (j:=p) (ltc cv) (fun h=>by omega)
        refine .exit ?_
        refine J18 _ ?_
        refine ⟨c,Dc,by rw [if_pos hka,← hC,hend],hcz,hDc,by simp,by simp; omega,?_,?_,?_,?_,?_,?_,?_,rfl⟩ <;> first|(simp (disch:=omega) [g0d,g1d,g2d,g3d,g8d,g9d,g10d,g11d];done)|omega|(simp;done)|(simp;omega)
      ·try simp only[dc]at h65
       have hka : ¬ k - a ≥ 2:=by omega
       refine .skip ?_
       refine J18 _ ?_
       refine ⟨e1,_,by rw [if_neg hka],hz1',rfl,by first|exact congrArg (fun x=>hupd HP id (some (12,x))) hD1|(simp only [hupd_same];done)|(simp only [hupd_same];exact congrArg (fun x=>hupd HP id (some (12,x))) hD1),by simp; omega,?_,?_,?_,?_,?_,?_,?_,rfl⟩ <;> first|(simp (disch:=omega) [g0q,g1q,g2q,g3q,g8q,g9q,g10q,g36q];done)|omega|(simp;done)|(simp;omega)
  by_cases hgd : k < b
  ·have ha1 : D[k]? = some (Pt.cells (P (gA e k))):=by rw [hD]; exact rwA_get (by omega)
   have hg1 : ∀ h : k < D.length,D[k] = (Pt.cells (P (gA e k))):=fun h=>by rw [List.getElem?_eq_getElem h] at ha1; simpa using ha1
   have ha2 : D[(k - 1)]? = some (Pt.cells (P (gA e (k - 1)))):=by rw [hD]; exact rwA_get (by omega)
   have hg2 : ∀ h : (k - 1) < D.length,D[(k - 1)] = (Pt.cells (P (gA e (k - 1)))):=fun h=>by rw [List.getElem?_eq_getElem h] at ha2; simpa using ha2
   have hcl : D.length = n:=by rw [hD,rwA_len]; assumption
   have hz1 : k < n:=by omega
   have hz2 : (k - 1) < n:=by omega
   refine .d 18 ?_
   refine .k 14 (fun fs37 hfs37=>?_) (by simp (disch:=first|omega|(simp only[ln];omega)) [List.take_succ_cons,List.take_zero,if_pos,g0s,g1s,g2s,g3s,g8s,g9s,g10s,hgd,hkm,ha1,ha2,hcl,hg1,hg2,hz1,hz2,hid]; rfl)
   refine DP.fcall (hc.2 (gA e k) (gA e (k - 1))) rfl rfl (by simp; rfl) hc.1 (by simp (disch:=first|omega|(simp only[ln];omega)) [idf_Wd']) (by simp (disch:=first|omega|(simp only[ln];omega))) (by simp) ?_
   simp only [updo]
   refine .k 3 (fun fs38 hfs38=>?_) (by simp (disch:=first|omega|(simp only[ln];omega)) [List.take_succ_cons,List.take_zero,if_pos]; rfl)
   refine .r 18 (by simp only[ln,hfs37,hfs38];omega) ?_ (by simp (disch:=first|omega|(simp only[ln];omega)) [if_pos]; rfl)
   refine J10 _ ?_
   refine ⟨by simp,by simp; omega,?_,?_,?_,?_,?_,?_,?_,?_,rfl⟩ <;> first|(simp (disch:=omega) [g0s,g1s,g2s,g3s,g8s,g9s,g10s,hgd,ltc,hkm];done)|(simp;done)|(simp;omega)|(simp (disch:=omega) [g0s,g1s,g2s,g3s,g8s,g9s,g10s,hgd,ltc,hkm] <;> omega)|(simp (disch:=omega) [g0s,g1s,g2s,g3s,g8s,g9s,g10s,hgd,ltc,hkm];exact dneg _)
  ·
   refine .df 18 ?_ (by simp (disch:=first|omega|(simp only[ln];omega)) [if_pos,g0s,g1s,g2s,g3s,g8s,g9s,g10s,hgd,hkm]; rfl)
   refine J10 _ ?_
   refine ⟨by simp,by simp; omega,?_,?_,?_,?_,?_,?_,?_,?_,rfl⟩ <;> first|(simp (disch:=omega) [g0s,g1s,g2s,g3s,g8s,g9s,g10s,hgd,ltc,hkm];done)|(simp;done)|(simp;omega)|(simp (disch:=omega) [g0s,g1s,g2s,g3s,g8s,g9s,g10s,hgd,ltc,hkm] <;> omega)|(simp (disch:=omega) [g0s,g1s,g2s,g3s,g8s,g9s,g10s,hgd,ltc,hkm];exact dneg _)
 ·try simp only[dc]at h16
  have hj5 : j = 5:=by omega
  subst hj5
  have hE' : (e,false) = (Sort.partialInsertionSort (ltc cv) d a b):=hE
  refine .exit ?_
  refine hK3 _ ?_
  refine .q ?_ (by simp (disch:=first|omega|(simp only[ln];omega)) [g0,g1,g2,g3,g8,g9,g10]; rfl)
  refine .ret ?_
  exact hK _ _ _ _ _ trivial (Fin.m) (⟨by rw [← hE'],by rw [← hE',hD],hnx⟩)
set_option maxHeartbeats 4000000 in
theorem prtPt_ac {α : Type} [Inhabited α] (P : α → Pt) (cv : α → α → Int) (f : Nat) (caps : List AV) (hc : CmpF Tryz.prog f caps (fun x=>.agg (Pt.cells (P x))) cv) (d : Array α) (n id : Nat) (HP : Heap) (nx : Nat) (hn : d.size = n) (hH : HP id = some (12,rwA (fun x=>(Pt.cells (P x))) d)) (hid : id < nx) (hl : n ≤ 1099511627776) (a b pivot : Nat) (hap : a ≤ pivot) (hpb : pivot < b) (hb : b ≤ n) : ACall Tryz.prog 289 [.osl id 0 n,.int .i64 (a : Int),.int .i64 (b : Int),.int .i64 (pivot : Int),.fn f caps] HP nx (fun r H' nx'=>r = .tup [.int .i64 ((Sort.partition (ltc cv) d a b pivot).1 : Int),.bool (Sort.partition (ltc cv) d a b pivot).2.1] ∧ H' = hupd HP id (some (12,rwA (fun x=>(Pt.cells (P x))) (Sort.partition (ltc cv) d a b pivot).2.2)) ∧ nx ≤ nx'):=by
 refine .b Tryz.func289 178 fun K hK=>?_
 refine .q ?_
 refine .sq fun K2 hK2=>?_
 obtain ⟨D,hD⟩ : ∃ D,D = rwA (fun x=>(Pt.cells (P x))) d:=⟨_,rfl⟩
 rw [← hD] at hH
 have ha1 : D[a]? = some (Pt.cells (P (gA d a))):=by rw [hD]; exact rwA_get (by omega)
 have hg1 : ∀ h : a < D.length,D[a] = (Pt.cells (P (gA d a))):=fun h=>by rw [List.getElem?_eq_getElem h] at ha1; simpa using ha1
 have ha2 : D[pivot]? = some (Pt.cells (P (gA d pivot))):=by rw [hD]; exact rwA_get (by omega)
 have hg2 : ∀ h : pivot < D.length,D[pivot] = (Pt.cells (P (gA d pivot))):=fun h=>by rw [List.getElem?_eq_getElem h] at ha2; simpa using ha2
 have hset : (D.set a (Pt.cells (P (gA d pivot)))).set pivot (Pt.cells (P (gA d a))) = rwA (fun x=>(Pt.cells (P x))) (Sort.swp d a pivot):=by rw [hD]; exact rwA_swp
 have hcl : D.length = n:=by rw [hD,rwA_len]; assumption
 obtain ⟨row,hr1,hr2⟩ : ∃ row,(D.set a (Pt.cells (P (gA d pivot))))[pivot]? = some row ∧ row.length = 12:=by rw [hD]; exact rwA_row (fun _=>rfl) (by omega) (by omega) rfl
 have hr3 : row.drop 12 = []:=List.drop_eq_nil_of_le (by omega)
 have hg3 : ∀ h : pivot < (D.set a (Pt.cells (P (gA d pivot)))).length,(D.set a (Pt.cells (P (gA d pivot))))[pivot] = row:=fun h=>by rw [List.getElem?_eq_getElem h] at hr1; simpa using hr1
 simp only [Pt.cells] at hr1 hg3
 have hz1 : a < n:=by omega
 have hz2 : pivot < n:=by omega
 have hz3 : id < nx:=by omega
 refine .sw 13 [2,3] ?_ (by simp (disch:=first|omega|(simp only[ln];omega)) [if_pos,hz3,ha1,ha2,hcl,hg1,hg2,hg3,hr1,hr2,hr3,hz1,hz2,hid,hset,hupd_same,List.length_set,hH]; rfl) (by simp (disch:=first|omega|(simp only[ln];omega)) [if_pos,hz3,ha1,ha2,hcl,hg1,hg2,hg3,hr1,hr2,hr3,hz1,hz2,hid,hset,hupd_same,List.length_set,hH]; rfl)
 obtain ⟨e,he⟩ : ∃ x,x = Sort.swp d a pivot:=⟨_,rfl⟩
 rw [← he] at hset
 obtain ⟨D1,hD1⟩ : ∃ D1,D1 = rwA (fun x=>(Pt.cells (P x))) e:=⟨_,rfl⟩
 rw [← hD1] at hset
 have hez : e.size = n:=by rw [he,Sort.size_swp]; exact hn
 obtain ⟨jb,hjb⟩ : ∃ x,x = b - 1:=⟨_,rfl⟩
 have ejb : (b : Int) - 1 = (jb : Int):=by omega
 refine hK2 _ ?_
 refine .q ?_ (by simp (disch:=first|omega|(simp only[ln];omega)) [ejb]; rfl)
 refine .sq fun K4 hK4=>?_
 refine .block ?_
 refine .loop (fun N st=>∃ (i : Nat),(N = jb + 2 - i) ∧ ((a + 1) ≤ i) ∧ (i ≤ jb + 2) ∧ (i ≤ b) ∧ (Sort.scanUp (fun y=>ltc cv y (gA e a)) e jb i = Sort.scanUp (fun y=>ltc cv y (gA e a)) e jb (a + 1)) ∧ (st.heap = hupd HP id (some (12,D1))) ∧ (nx ≤ st.nx) ∧ st.env 0 = .osl id 0 n ∧ st.env 1 = .int .i64 (a : Int) ∧ st.env 2 = .int .i64 (b : Int) ∧ st.env 3 = .int .i64 (pivot : Int) ∧ st.env 4 = .fn f caps ∧ st.env 10 = .int .i64 0 ∧ st.env 11 = .bool false ∧ st.env 12 = .int .i64 (i : Int) ∧ st.env 13 = .int .i64 (jb : Int) ∧ st.nt = 178) (jb + 2 - (a + 1)) (by refine ⟨(a + 1),rfl,Nat.le_refl _,by omega,by omega,rfl,by first|(simp;done)|(simp only [hupd_same];exact congrArg (fun x=>hupd HP id (some (12,x))) hset)|(simp only [hupd_same]),by first|(simp;done)|(simp;omega),?_,?_,?_,?_,?_,?_,?_,?_,?_,rfl⟩ <;> first|(simp (disch:=omega);done)|omega|(simp;done)|(simp;omega)|(simp (disch:=omega) <;> omega)) ?_
 rintro N ⟨e0,H,mm,nt⟩ ⟨i,rfl,h1i,h2i,h3i,hSi,rfl,hns,g0s,g1s,g2s,g3s,g4s,g10s,g11s,g12s,g13s,rfl⟩
 simp only [] at g0s g1s g2s g3s g4s g10s g11s g12s g13s hns
 refine .sq fun K5 hK5=>?_
 refine .sq fun K6 hK6=>?_
 have J6 : ∀ s : St,((s.heap = hupd HP id (some (12,D1))) ∧ (nx ≤ s.nx) ∧ s.env 0 = .osl id 0 n ∧ s.env 1 = .int .i64 (a : Int) ∧ s.env 2 = .int .i64 (b : Int) ∧ s.env 3 = .int .i64 (pivot : Int) ∧ s.env 4 = .fn f caps ∧ s.env 10 = .int .i64 0 ∧ s.env 11 = .bool false ∧ s.env 12 = .int .i64 (i : Int) ∧ s.env 13 = .int .i64 (jb : Int) ∧ s.env 47 = .bool (decide (i ≤ jb ∧ ltc cv (gA e i) (gA e a) = true)) ∧ s.nt = 178) → K6 s:=by
  rintro ⟨e0,H,mm,nt⟩ ⟨rfl,hnssq,g0sq,g1sq,g2sq,g3sq,g4sq,g10sq,g11sq,g12sq,g13sq,g47sq,rfl⟩
  simp only [] at g0sq g1sq g2sq g3sq g4sq g10sq g11sq g12sq g13sq g47sq
  simp only [] at hnssq
  refine hK6 _ ?_
  refine .c (t:=decide (i ≤ jb ∧ ltc cv (gA e i) (gA e a) = true)) (fun h47=>?_) (fun h47=>?_) (by simp (disch:=first|omega|(simp only[ln];omega)) [g47sq])
  ·simp only [dc] at h47
   refine .skip ?_
   refine hK5 _ ?_
   refine .block ?_
   refine .r ?_ (by simp (disch:=first|omega|(simp only[ln];omega)) [g0sq,g1sq,g2sq,g3sq,g4sq,g10sq,g11sq,g12sq,g13sq,g47sq]; rfl)
   refine ⟨jb + 2 - (i + 1),by omega,i + 1,rfl,by omega,by omega,by omega,by rw [← hSi,scanUp_pos h47.1 (by simp [h47.2])],by simp,by simp; omega,?_,?_,?_,?_,?_,?_,?_,?_,?_,rfl⟩ <;> first|(simp (disch:=omega) [g0sq,g1sq,g2sq,g3sq,g4sq,g10sq,g11sq,g12sq,g13sq,g47sq];done)|omega|(simp;done)|(simp;omega)|(simp (disch:=omega) [g0sq,g1sq,g2sq,g3sq,g4sq,g10sq,g11sq,g12sq,g13sq,g47sq] <;> omega)
  ·simp only [dc] at h47
   rw [scanUp_neg (fun h=>h47 ⟨h.1,by simpa using h.2⟩)] at hSi
   refine .exit ?_
   refine hK4 _ ?_
   refine .sq fun K7 hK7=>?_
   refine .block ?_
   refine .loop (fun N st=>∃ (j : Nat),(N = j) ∧ (i ≤ j + 2) ∧ (j ≤ jb) ∧ (True) ∧ (Sort.scanDown (fun y=>!ltc cv y (gA e a)) e i j = Sort.scanDown (fun y=>!ltc cv y (gA e a)) e i jb) ∧ (st.heap = hupd HP id (some (12,D1))) ∧ (nx ≤ st.nx) ∧ st.env 0 = .osl id 0 n ∧ st.env 1 = .int .i64 (a : Int) ∧ st.env 2 = .int .i64 (b : Int) ∧ st.env 3 = .int .i64 (pivot : Int) ∧ st.env 4 = .fn f caps ∧ st.env 10 = .int .i64 0 ∧ st.env 11 = .bool false ∧ st.env 12 = .int .i64 (i : Int) ∧ st.env 13 = .int .i64 (j : Int) ∧ st.nt = 178) (jb) (by refine ⟨jb,rfl,by omega,Nat.le_refl _,trivial,rfl,by first|(simp;done)|(simp only [hupd_same];exact congrArg (fun x=>hupd HP id (some (12,x))) hset)|(simp only [hupd_same]),by first|(simp;done)|(simp;omega),?_,?_,?_,?_,?_,?_,?_,?_,?_,rfl⟩ <;> first|(simp (disch:=omega) [g0sq,g1sq,g2sq,g3sq,g4sq,g10sq,g11sq,g12sq,g13sq,g47sq];done)|omega|(simp;done)|(simp;omega)|(simp (disch:=omega) [g0sq,g1sq,g2sq,g3sq,g4sq,g10sq,g11sq,g12sq,g13sq,g47sq] <;> omega)) ?_
   rintro N ⟨e0,H,mm,nt⟩ ⟨j,hNj,h1j,h2j,h3j,hSj,rfl,hnt,g0t,g1t,g2t,g3t,g4t,g10t,g11t,g12t,g13t,rfl⟩
   simp only [] at g0t g1t g2t g3t g4t g10t g11t g12t g13t hnt
   refine .sq fun K8 hK8=>?_
   refine .sq fun K9 hK9=>?_
   have J9 : ∀ s : St,((s.heap = hupd HP id (some (12,D1))) ∧ (nx ≤ s.nx) ∧ s.env 0 = .osl id 0 n ∧ s.env 1 = .int .i64 (a : Int) ∧ s.env 2 = .int .i64 (b : Int) ∧ s.env 3 = .int .i64 (pivot : Int) ∧ s.env 4 = .fn f caps ∧ s.env 10 = .int .i64 0 ∧ s.env 11 = .bool false ∧ s.env 12 = .int .i64 (i : Int) ∧ s.env 13 = .int .i64 (j : Int) ∧ s.env 66 = .bool (decide (i ≤ j ∧ ltc cv (gA e j) (gA e a) = false)) ∧ s.nt = 178) → K9 s:=by
    rintro ⟨e0,H,mm,nt⟩ ⟨rfl,hnttq,g0tq,g1tq,g2tq,g3tq,g4tq,g10tq,g11tq,g12tq,g13tq,g66tq,rfl⟩
    simp only [] at g0tq g1tq g2tq g3tq g4tq g10tq g11tq g12tq g13tq g66tq
    simp only [] at hnttq
    refine hK9 _ ?_
    refine .c (t:=decide (i ≤ j ∧ ltc cv (gA e j) (gA e a) = false)) (fun h66=>?_) (fun h66=>?_) (by simp (disch:=first|omega|(simp only[ln];omega)) [g66tq])
    ·simp only [dc] at h66
     refine .skip ?_
     refine hK8 _ ?_
     refine .block ?_
     refine .r ?_ (by simp (disch:=first|omega|(simp only[ln];omega)) [g0tq,g1tq,g2tq,g3tq,g4tq,g10tq,g11tq,g12tq,g13tq,g66tq]; rfl)
     refine ⟨j - 1,by omega,j - 1,rfl,by omega,by omega,trivial,by rw [← hSj,scanDown_pos (by omega) h66.1 (by simp [h66.2])],by simp,by simp; omega,?_,?_,?_,?_,?_,?_,?_,?_,?_,rfl⟩ <;> first|(simp (disch:=omega) [g0tq,g1tq,g2tq,g3tq,g4tq,g10tq,g11tq,g12tq,g13tq,g66tq];done)|omega|(simp;done)|(simp;omega)|(simp (disch:=omega) [g0tq,g1tq,g2tq,g3tq,g4tq,g10tq,g11tq,g12tq,g13tq,g66tq] <;> omega)
    ·simp only [dc] at h66
     rw [scanDown_neg (fun h=>h66 ⟨h.1,by simpa using h.2⟩)] at hSj
     refine .exit ?_
     refine hK7 _ ?_
     refine .sq fun K10 hK10=>?_
     refine .q ?_ (by simp (disch:=first|omega|(simp only[ln];omega)) [g0tq,g1tq,g2tq,g3tq,g4tq,g10tq,g11tq,g12tq,g13tq,g66tq]; rfl)
     refine .c (t:=decide ((j : Int) < (i : Int))) (fun h71=>?_) (fun h71=>?_)
     ·try simp only[dc]at h71
      have hij : j < i:=by omega
      have hP:=partition_hi (lt:=ltc cv) (pivot:=pivot) (b:=b) he hjb hSi hSj hij
      refine .sq fun K12 hK12=>?_
      have ha1 : D1[j]? = some (Pt.cells (P (gA e j))):=by rw [hD1]; exact rwA_get (by omega)
      have hg1 : ∀ h : j < D1.length,D1[j] = (Pt.cells (P (gA e j))):=fun h=>by rw [List.getElem?_eq_getElem h] at ha1; simpa using ha1
      have ha2 : D1[a]? = some (Pt.cells (P (gA e a))):=by rw [hD1]; exact rwA_get (by omega)
      have hg2 : ∀ h : a < D1.length,D1[a] = (Pt.cells (P (gA e a))):=fun h=>by rw [List.getElem?_eq_getElem h] at ha2; simpa using ha2
      have hset : (D1.set j (Pt.cells (P (gA e a)))).set a (Pt.cells (P (gA e j))) = rwA (fun x=>(Pt.cells (P x))) (Sort.swp e j a):=by rw [hD1]; exact rwA_swp
      have hcl : D1.length = n:=by rw [hD1,rwA_len]; assumption
      obtain ⟨row,hr1,hr2⟩ : ∃ row,(D1.set j (Pt.cells (P (gA e a))))[a]? = some row ∧ row.length = 12:=by rw [hD1]; exact rwA_row (fun _=>rfl) (by omega) (by omega) rfl
      have hr3 : row.drop 12 = []:=List.drop_eq_nil_of_le (by omega)
      have hg3 : ∀ h : a < (D1.set j (Pt.cells (P (gA e a)))).length,(D1.set j (Pt.cells (P (gA e a))))[a] = row:=fun h=>by rw [List.getElem?_eq_getElem h] at hr1; simpa using hr1
      simp only [Pt.cells] at hr1 hg3
      have hz1 : j < n:=by omega
      have hz2 : a < n:=by omega
      have hz3 : id < mm:=by omega
      refine .sw 13 [2,3] ?_ (by simp (disch:=first|omega|(simp only[ln];omega)) [if_pos,g0tq,g1tq,g2tq,g3tq,g4tq,g10tq,g11tq,g12tq,g13tq,g66tq,hz3,ha1,ha2,hcl,hg1,hg2,hg3,hr1,hr2,hr3,hz1,hz2,hid,hset,hupd_same,List.length_set]; rfl) (by simp (disch:=first|omega|(simp only[ln];omega)) [if_pos,g0tq,g1tq,g2tq,g3tq,g4tq,g10tq,g11tq,g12tq,g13tq,g66tq,hz3,ha1,ha2,hcl,hg1,hg2,hg3,hr1,hr2,hr3,hz1,hz2,hid,hset,hupd_same,List.length_set]; rfl)
      refine hK12 _ ?_
      refine .q ?_ (by simp (disch:=first|omega|(simp only[ln];omega)) [g0tq,g1tq,g2tq,g3tq,g4tq,g10tq,g11tq,g12tq,g13tq,g66tq]; rfl)
      refine .ret ?_
      exact hK _ _ _ _ _ trivial (Fin.m) (⟨by rw [hP],by rw [hP]; simp only [hupd_same]; exact congrArg (fun x=>hupd HP id (some (12,x))) hset,by simp; omega⟩)
     ·try simp only[dc]at h71
      have hij : ¬ j < i:=by omega
      have hP:=partition_lo (lt:=ltc cv) (pivot:=pivot) (b:=b) he hjb hSi hSj hij
      refine .skip ?_
      refine hK10 _ ?_
      refine .sq fun K14 hK14=>?_
      have ha1 : D1[i]? = some (Pt.cells (P (gA e i))):=by rw [hD1]; exact rwA_get (by omega)
      have hg1 : ∀ h : i < D1.length,D1[i] = (Pt.cells (P (gA e i))):=fun h=>by rw [List.getElem?_eq_getElem h] at ha1; simpa using ha1
      have ha2 : D1[j]? = some (Pt.cells (P (gA e j))):=by rw [hD1]; exact rwA_get (by omega)
      have hg2 : ∀ h : j < D1.length,D1[j] = (Pt.cells (P (gA e j))):=fun h=>by rw [List.getElem?_eq_getElem h] at ha2; simpa using ha2
      have hset : (D1.set i (Pt.cells (P (gA e j)))).set j (Pt.cells (P (gA e i))) = rwA (fun x=>(Pt.cells (P x))) (Sort.swp e i j):=by rw [hD1]; exact rwA_swp
      have hcl : D1.length = n:=by rw [hD1,rwA_len]; assumption
      obtain ⟨row,hr1,hr2⟩ : ∃ row,(D1.set i (Pt.cells (P (gA e j))))[j]? = some row ∧ row.length = 12:=by rw [hD1]; exact rwA_row (fun _=>rfl) (by omega) (by omega) rfl
      have hr3 : row.drop 12 = []:=List.drop_eq_nil_of_le (by omega)
      have hg3 : ∀ h : j < (D1.set i (Pt.cells (P (gA e j)))).length,(D1.set i (Pt.cells (P (gA e j))))[j] = row:=fun h=>by rw [List.getElem?_eq_getElem h] at hr1; simpa using hr1
      simp only [Pt.cells] at hr1 hg3
      have hz1 : i < n:=by omega
      have hz2 : j < n:=by omega
      have hz3 : id < mm:=by omega
      refine .sw 13 [2,3] ?_ (by simp (disch:=first|omega|(simp only[ln];omega)) [if_pos,g0tq,g1tq,g2tq,g3tq,g4tq,g10tq,g11tq,g12tq,g13tq,g66tq,hz3,ha1,ha2,hcl,hg1,hg2,hg3,hr1,hr2,hr3,hz1,hz2,hid,hset,hupd_same,List.length_set]; rfl) (by simp (disch:=first|omega|(simp only[ln];omega)) [if_pos,g0tq,g1tq,g2tq,g3tq,g4tq,g10tq,g11tq,g12tq,g13tq,g66tq,hz3,ha1,ha2,hcl,hg1,hg2,hg3,hr1,hr2,hr3,hz1,hz2,hid,hset,hupd_same,List.length_set]; rfl)
      obtain ⟨e1,he1⟩ : ∃ x,x = Sort.swp e i j:=⟨_,rfl⟩
      rw [← he1] at hset hP
      obtain ⟨De,hDe⟩ : ∃ x,x = rwA (fun x=>(Pt.cells (P x))) e1:=⟨_,rfl⟩
      rw [← hDe] at hset
      have he1z : e1.size = n:=by rw [he1,Sort.size_swp]; exact hez
      have ejm : (j : Int) - 1 = ((j - 1 : Nat) : Int):=by omega
      refine hK14 _ ?_
      refine .q ?_ (by simp (disch:=first|omega|(simp only[ln];omega)) [g0tq,g1tq,g2tq,g3tq,g4tq,g10tq,g11tq,g12tq,g13tq,g66tq]; rfl)
      refine .q ?_ (by simp (disch:=first|omega|(simp only[ln];omega)) [g0tq,g1tq,g2tq,g3tq,g4tq,g10tq,g11tq,g12tq,g13tq,g66tq,ejm]; rfl)
      refine .sq fun K17 hK17=>?_
      refine .block ?_
      refine .loop (fun N st=>∃ (u w : Nat) (c : Array α) (Dc : List (List AV)),(N = w + 2 - u) ∧ (a < u) ∧ (u ≤ w + 2) ∧ (w < b) ∧ (u ≤ b) ∧ (c.size = n) ∧ (Sort.partLoop (ltc cv) a u w c = Sort.partLoop (ltc cv) a (i + 1) (j - 1) e1) ∧ (Dc = rwA (fun x=>(Pt.cells (P x))) c) ∧ (st.heap = hupd HP id (some (12,Dc))) ∧ (nx ≤ st.nx) ∧ st.env 0 = .osl id 0 n ∧ st.env 1 = .int .i64 (a : Int) ∧ st.env 2 = .int .i64 (b : Int) ∧ st.env 3 = .int .i64 (pivot : Int) ∧ st.env 4 = .fn f caps ∧ st.env 10 = .int .i64 0 ∧ st.env 11 = .bool false ∧ st.env 12 = .int .i64 (u : Int) ∧ st.env 13 = .int .i64 (w : Int) ∧ st.nt = 178) ((j - 1) + 2 - (i + 1)) (by refine ⟨i + 1,j - 1,e1,De,rfl,by omega,by omega,by omega,by omega,he1z,rfl,hDe,by first|(simp;done)|(simp only [hupd_same];exact congrArg (fun x=>hupd HP id (some (12,x))) hset),by first|(simp;done)|(simp;omega),?_,?_,?_,?_,?_,?_,?_,?_,?_,rfl⟩ <;> first|(simp (disch:=omega) [g0tq,g1tq,g2tq,g3tq,g4tq,g10tq,g11tq,g12tq,g13tq,g66tq,ejm];done)|omega|(simp;done)|(simp;omega)|(simp (disch:=omega) [g0tq,g1tq,g2tq,g3tq,g4tq,g10tq,g11tq,g12tq,g13tq,g66tq,ejm] <;> omega)) ?_
      rintro N ⟨e0,H,mm,nt⟩ ⟨u,w,c,Dc,rfl,ho1,ho2,ho3,ho4,hcz,hC,hDc,rfl,hno,g0o,g1o,g2o,g3o,g4o,g10o,g11o,g12o,g13o,rfl⟩
      simp only [] at g0o g1o g2o g3o g4o g10o g11o g12o g13o hno
      refine .block ?_
      refine .sq fun K18 hK18=>?_
      refine .block ?_
      refine .loop (fun N st=>∃ (p : Nat),(N = w + 2 - p) ∧ (u ≤ p) ∧ (p ≤ w + 2) ∧ (p ≤ b) ∧ (Sort.scanUp (fun y=>ltc cv y (gA c a)) c w p = Sort.scanUp (fun y=>ltc cv y (gA c a)) c w u) ∧ (st.heap = hupd HP id (some (12,Dc))) ∧ (nx ≤ st.nx) ∧ st.env 0 = .osl id 0 n ∧ st.env 1 = .int .i64 (a : Int) ∧ st.env 2 = .int .i64 (b : Int) ∧ st.env 3 = .int .i64 (pivot : Int) ∧ st.env 4 = .fn f caps ∧ st.env 10 = .int .i64 0 ∧ st.env 11 = .bool false ∧ st.env 12 = .int .i64 (p : Int) ∧ st.env 13 = .int .i64 (w : Int) ∧ st.nt = 178) (w + 2 - u) (by refine ⟨u,rfl,Nat.le_refl _,by omega,by omega,rfl,by first|(simp;done)|(simp only [hupd_same];exact congrArg (fun x=>hupd HP id (some (12,x))) hset)|(simp only [hupd_same]),by first|(simp;done)|(simp;omega),?_,?_,?_,?_,?_,?_,?_,?_,?_,rfl⟩ <;> first|(simp (disch:=omega) [g0o,g1o,g2o,g3o,g4o,g10o,g11o,g12o,g13o];done)|omega|(simp;done)|(simp;omega)|(simp (disch:=omega) [g0o,g1o,g2o,g3o,g4o,g10o,g11o,g12o,g13o] <;> omega)) ?_
      rintro N ⟨e0,H,mm,nt⟩ ⟨p,rfl,h1p,h2p,h3p,hSp,rfl,hnv,g0v,g1v,g2v,g3v,g4v,g10v,g11v,g12v,g13v,rfl⟩
      simp only [] at g0v g1v g2v g3v g4v g10v g11v g12v g13v hnv
      refine .sq fun K19 hK19=>?_
      refine .sq fun K20 hK20=>?_
      have J20 : ∀ s : St,((s.heap = hupd HP id (some (12,Dc))) ∧ (nx ≤ s.nx) ∧ s.env 0 = .osl id 0 n ∧ s.env 1 = .int .i64 (a : Int) ∧ s.env 2 = .int .i64 (b : Int) ∧ s.env 3 = .int .i64 (pivot : Int) ∧ s.env 4 = .fn f caps ∧ s.env 10 = .int .i64 0 ∧ s.env 11 = .bool false ∧ s.env 12 = .int .i64 (p : Int) ∧ s.env 13 = .int .i64 (w : Int) ∧ s.env 120 = .bool (decide (p ≤ w ∧ ltc cv (gA c p) (gA c a) = true)) ∧ s.nt = 178) → K20 s:=by
       rintro ⟨e0,H,mm,nt⟩ ⟨rfl,hnvvq,g0vq,g1vq,g2vq,g3vq,g4vq,g10vq,g11vq,g12vq,g13vq,g120vq,rfl⟩
       simp only [] at g0vq g1vq g2vq g3vq g4vq g10vq g11vq g12vq g13vq g120vq
       simp only [] at hnvvq
       refine hK20 _ ?_
       refine .c (t:=decide (p ≤ w ∧ ltc cv (gA c p) (gA c a) = true)) (fun h120=>?_) (fun h120=>?_) (by simp (disch:=first|omega|(simp only[ln];omega)) [g120vq])
       ·simp only [dc] at h120
        refine .skip ?_
        refine hK19 _ ?_
        refine .block ?_
        refine .r ?_ (by simp (disch:=first|omega|(simp only[ln];omega)) [g0vq,g1vq,g2vq,g3vq,g4vq,g10vq,g11vq,g12vq,g13vq,g120vq]; rfl)
        refine ⟨w + 2 - (p + 1),by omega,p + 1,rfl,by omega,by omega,by omega,by rw [← hSp,scanUp_pos h120.1 (by simp [h120.2])],by simp,by simp; omega,?_,?_,?_,?_,?_,?_,?_,?_,?_,rfl⟩ <;> first|(simp (disch:=omega) [g0vq,g1vq,g2vq,g3vq,g4vq,g10vq,g11vq,g12vq,g13vq,g120vq];done)|omega|(simp;done)|(simp;omega)|(simp (disch:=omega) [g0vq,g1vq,g2vq,g3vq,g4vq,g10vq,g11vq,g12vq,g13vq,g120vq] <;> omega)
       ·simp only [dc] at h120
        rw [scanUp_neg (fun h=>h120 ⟨h.1,by simpa using h.2⟩)] at hSp
        refine .exit ?_
        refine hK18 _ ?_
        refine .sq fun K21 hK21=>?_
        refine .block ?_
        refine .loop (fun N st=>∃ (q : Nat),(N = q) ∧ (p ≤ q + 2) ∧ (q ≤ w) ∧ (True) ∧ (Sort.scanDown (fun y=>!ltc cv y (gA c a)) c p q = Sort.scanDown (fun y=>!ltc cv y (gA c a)) c p w) ∧ (st.heap = hupd HP id (some (12,Dc))) ∧ (nx ≤ st.nx) ∧ st.env 0 = .osl id 0 n ∧ st.env 1 = .int .i64 (a : Int) ∧ st.env 2 = .int .i64 (b : Int) ∧ st.env 3 = .int .i64 (pivot : Int) ∧ st.env 4 = .fn f caps ∧ st.env 10 = .int .i64 0 ∧ st.env 11 = .bool false ∧ st.env 12 = .int .i64 (p : Int) ∧ st.env 13 = .int .i64 (q : Int) ∧ st.nt = 178) (w) (by refine ⟨w,rfl,by omega,Nat.le_refl _,trivial,rfl,by first|(simp;done)|(simp only [hupd_same];exact congrArg (fun x=>hupd HP id (some (12,x))) hset)|(simp only [hupd_same]),by first|(simp;done)|(simp;omega),?_,?_,?_,?_,?_,?_,?_,?_,?_,rfl⟩ <;> first|(simp (disch:=omega) [g0vq,g1vq,g2vq,g3vq,g4vq,g10vq,g11vq,g12vq,g13vq,g120vq];done)|omega|(simp;done)|(simp;omega)|(simp (disch:=omega) [g0vq,g1vq,g2vq,g3vq,g4vq,g10vq,g11vq,g12vq,g13vq,g120vq] <;> omega)) ?_
        rintro N ⟨e0,H,mm,nt⟩ ⟨q,hNq,h1q,h2q,h3q,hSq,rfl,hnz,g0z,g1z,g2z,g3z,g4z,g10z,g11z,g12z,g13z,rfl⟩
        simp only [] at g0z g1z g2z g3z g4z g10z g11z g12z g13z hnz
        refine .sq fun K22 hK22=>?_
        refine .sq fun K23 hK23=>?_
        have J23 : ∀ s : St,((s.heap = hupd HP id (some (12,Dc))) ∧ (nx ≤ s.nx) ∧ s.env 0 = .osl id 0 n ∧ s.env 1 = .int .i64 (a : Int) ∧ s.env 2 = .int .i64 (b : Int) ∧ s.env 3 = .int .i64 (pivot : Int) ∧ s.env 4 = .fn f caps ∧ s.env 10 = .int .i64 0 ∧ s.env 11 = .bool false ∧ s.env 12 = .int .i64 (p : Int) ∧ s.env 13 = .int .i64 (q : Int) ∧ s.env 139 = .bool (decide (p ≤ q ∧ ltc cv (gA c q) (gA c a) = false)) ∧ s.nt = 178) → K23 s:=by
         rintro ⟨e0,H,mm,nt⟩ ⟨rfl,hnzzq,g0zq,g1zq,g2zq,g3zq,g4zq,g10zq,g11zq,g12zq,g13zq,g139zq,rfl⟩
         simp only [] at g0zq g1zq g2zq g3zq g4zq g10zq g11zq g12zq g13zq g139zq
         simp only [] at hnzzq
         refine hK23 _ ?_
         refine .c (t:=decide (p ≤ q ∧ ltc cv (gA c q) (gA c a) = false)) (fun h139=>?_) (fun h139=>?_) (by simp (disch:=first|omega|(simp only[ln];omega)) [g139zq])
         ·simp only [dc] at h139
          refine .skip ?_
          refine hK22 _ ?_
          refine .block ?_
          refine .r ?_ (by simp (disch:=first|omega|(simp only[ln];omega)) [g0zq,g1zq,g2zq,g3zq,g4zq,g10zq,g11zq,g12zq,g13zq,g139zq]; rfl)
          refine ⟨q - 1,by omega,q - 1,rfl,by omega,by omega,trivial,by rw [← hSq,scanDown_pos (by omega) h139.1 (by simp [h139.2])],by simp,by simp; omega,?_,?_,?_,?_,?_,?_,?_,?_,?_,rfl⟩ <;> first|(simp (disch:=omega) [g0zq,g1zq,g2zq,g3zq,g4zq,g10zq,g11zq,g12zq,g13zq,g139zq];done)|omega|(simp;done)|(simp;omega)|(simp (disch:=omega) [g0zq,g1zq,g2zq,g3zq,g4zq,g10zq,g11zq,g12zq,g13zq,g139zq] <;> omega)
         ·simp only [dc] at h139
          rw [scanDown_neg (fun h=>h139 ⟨h.1,by simpa using h.2⟩)] at hSq
          refine .exit ?_
          refine hK21 _ ?_
          refine .sq fun K24 hK24=>?_
          refine .q ?_ (by simp (disch:=first|omega|(simp only[ln];omega)) [g0zq,g1zq,g2zq,g3zq,g4zq,g10zq,g11zq,g12zq,g13zq,g139zq]; rfl)
          refine .c (t:=decide ((q : Int) < (p : Int))) (fun h144=>?_) (fun h144=>?_)
          ·try simp only[dc]at h144
           have hR:=partLoop_stop hSp hSq (by omega)
           rw [hC] at hR
           refine .exit ?_
           refine hK17 _ ?_
           refine .sq fun K26 hK26=>?_
           have ha1 : Dc[q]? = some (Pt.cells (P (gA c q))):=by rw [hDc]; exact rwA_get (by omega)
           have hg1 : ∀ h : q < Dc.length,Dc[q] = (Pt.cells (P (gA c q))):=fun h=>by rw [List.getElem?_eq_getElem h] at ha1; simpa using ha1
           have ha2 : Dc[a]? = some (Pt.cells (P (gA c a))):=by rw [hDc]; exact rwA_get (by omega)
           have hg2 : ∀ h : a < Dc.length,Dc[a] = (Pt.cells (P (gA c a))):=fun h=>by rw [List.getElem?_eq_getElem h] at ha2; simpa using ha2
           have hset : (Dc.set q (Pt.cells (P (gA c a)))).set a (Pt.cells (P (gA c q))) = rwA (fun x=>(Pt.cells (P x))) (Sort.swp c q a):=by rw [hDc]; exact rwA_swp
           have hcl : Dc.length = n:=by rw [hDc,rwA_len]; assumption
           obtain ⟨row,hr1,hr2⟩ : ∃ row,(Dc.set q (Pt.cells (P (gA c a))))[a]? = some row ∧ row.length = 12:=by rw [hDc]; exact rwA_row (fun _=>rfl) (by omega) (by omega) rfl
           have hr3 : row.drop 12 = []:=List.drop_eq_nil_of_le (by omega)
           have hg3 : ∀ h : a < (Dc.set q (Pt.cells (P (gA c a)))).length,(Dc.set q (Pt.cells (P (gA c a))))[a] = row:=fun h=>by rw [List.getElem?_eq_getElem h] at hr1; simpa using hr1
           simp only [Pt.cells] at hr1 hg3
           have hz1 : q < n:=by omega
           have hz2 : a < n:=by omega
           have hz3 : id < mm:=by omega
           refine .sw 13 [2,3] ?_ (by simp (disch:=first|omega|(simp only[ln];omega)) [if_pos,g0zq,g1zq,g2zq,g3zq,g4zq,g10zq,g11zq,g12zq,g13zq,g139zq,hz3,ha1,ha2,hcl,hg1,hg2,hg3,hr1,hr2,hr3,hz1,hz2,hid,hset,hupd_same,List.length_set]; rfl) (by simp (disch:=first|omega|(simp only[ln];omega)) [if_pos,g0zq,g1zq,g2zq,g3zq,g4zq,g10zq,g11zq,g12zq,g13zq,g139zq,hz3,ha1,ha2,hcl,hg1,hg2,hg3,hr1,hr2,hr3,hz1,hz2,hid,hset,hupd_same,List.length_set]; rfl)
           refine hK26 _ ?_
           refine .q ?_ (by simp (disch:=first|omega|(simp only[ln];omega)) [g0zq,g1zq,g2zq,g3zq,g4zq,g10zq,g11zq,g12zq,g13zq,g139zq]; rfl)
           refine .ret ?_
           exact hK _ _ _ _ _ trivial (Fin.m) (⟨by rw [hP,hR],by rw [hP,hR]; simp only [hupd_same]; exact congrArg (fun x=>hupd HP id (some (12,x))) hset,by simp; omega⟩)
          ·try simp only[dc]at h144
           have eqm : (q : Int) - 1 = ((q - 1 : Nat) : Int):=by omega
           refine .skip ?_
           refine hK24 _ ?_
           refine .sq fun K28 hK28=>?_
           have ha1 : Dc[p]? = some (Pt.cells (P (gA c p))):=by rw [hDc]; exact rwA_get (by omega)
           have hg1 : ∀ h : p < Dc.length,Dc[p] = (Pt.cells (P (gA c p))):=fun h=>by rw [List.getElem?_eq_getElem h] at ha1; simpa using ha1
           have ha2 : Dc[q]? = some (Pt.cells (P (gA c q))):=by rw [hDc]; exact rwA_get (by omega)
           have hg2 : ∀ h : q < Dc.length,Dc[q] = (Pt.cells (P (gA c q))):=fun h=>by rw [List.getElem?_eq_getElem h] at ha2; simpa using ha2
           have hset : (Dc.set p (Pt.cells (P (gA c q)))).set q (Pt.cells (P (gA c p))) = rwA (fun x=>(Pt.cells (P x))) (Sort.swp c p q):=by rw [hDc]; exact rwA_swp
           have hcl : Dc.length = n:=by rw [hDc,rwA_len]; assumption
           obtain ⟨row,hr1,hr2⟩ : ∃ row,(Dc.set p (Pt.cells (P (gA c q))))[q]? = some row ∧ row.length = 12:=by rw [hDc]; exact rwA_row (fun _=>rfl) (by omega) (by omega) rfl
           have hr3 : row.drop 12 = []:=List.drop_eq_nil_of_le (by omega)
           have hg3 : ∀ h : q < (Dc.set p (Pt.cells (P (gA c q)))).length,(Dc.set p (Pt.cells (P (gA c q))))[q] = row:=fun h=>by rw [List.getElem?_eq_getElem h] at hr1; simpa using hr1
           simp only [Pt.cells] at hr1 hg3
           have hz1 : p < n:=by omega
           have hz2 : q < n:=by omega
           have hz3 : id < mm:=by omega
           refine .sw 13 [2,3] ?_ (by simp (disch:=first|omega|(simp only[ln];omega)) [if_pos,g0zq,g1zq,g2zq,g3zq,g4zq,g10zq,g11zq,g12zq,g13zq,g139zq,hz3,ha1,ha2,hcl,hg1,hg2,hg3,hr1,hr2,hr3,hz1,hz2,hid,hset,hupd_same,List.length_set]; rfl) (by simp (disch:=first|omega|(simp only[ln];omega)) [if_pos,g0zq,g1zq,g2zq,g3zq,g4zq,g10zq,g11zq,g12zq,g13zq,g139zq,hz3,ha1,ha2,hcl,hg1,hg2,hg3,hr1,hr2,hr3,hz1,hz2,hid,hset,hupd_same,List.length_set]; rfl)
           refine hK28 _ ?_
           refine .q ?_ (by simp (disch:=first|omega|(simp only[ln];omega)) [g0zq,g1zq,g2zq,g3zq,g4zq,g10zq,g11zq,g12zq,g13zq,g139zq]; rfl)
           refine .r ?_ (by simp (disch:=first|omega|(simp only[ln];omega)) [g0zq,g1zq,g2zq,g3zq,g4zq,g10zq,g11zq,g12zq,g13zq,g139zq,eqm]; rfl)
           refine ⟨(q - 1) + 2 - (p + 1),by omega,p + 1,q - 1,Sort.swp c p q,_,rfl,by omega,by omega,by omega,by omega,by rw [Sort.size_swp]; exact hcz,by rw [← hC,partLoop_go hSp hSq (by omega)],rfl,by simp only [hupd_same]; exact congrArg (fun x=>hupd HP id (some (12,x))) hset,by simp; omega,?_,?_,?_,?_,?_,?_,?_,?_,?_,rfl⟩ <;> first|(simp (disch:=omega) [g0zq,g1zq,g2zq,g3zq,g4zq,g10zq,g11zq,g12zq,g13zq,g139zq,eqm];done)|omega|(simp;done)|(simp;omega)|(simp (disch:=omega) [g0zq,g1zq,g2zq,g3zq,g4zq,g10zq,g11zq,g12zq,g13zq,g139zq,eqm] <;> omega)
        by_cases hgd : p ≤ q
        ·have ha1 : Dc[q]? = some (Pt.cells (P (gA c q))):=by rw [hDc]; exact rwA_get (by omega)
         have hg1 : ∀ h : q < Dc.length,Dc[q] = (Pt.cells (P (gA c q))):=fun h=>by rw [List.getElem?_eq_getElem h] at ha1; simpa using ha1
         have ha2 : Dc[a]? = some (Pt.cells (P (gA c a))):=by rw [hDc]; exact rwA_get (by omega)
         have hg2 : ∀ h : a < Dc.length,Dc[a] = (Pt.cells (P (gA c a))):=fun h=>by rw [List.getElem?_eq_getElem h] at ha2; simpa using ha2
         have hcl : Dc.length = n:=by rw [hDc,rwA_len]; assumption
         have hz1 : q < n:=by omega
         have hz2 : a < n:=by omega
         refine .d 17 ?_
         refine .k 13 (fun fs30 hfs30=>?_) (by simp (disch:=first|omega|(simp only[ln];omega)) [List.take_succ_cons,List.take_zero,if_pos,g0z,g1z,g2z,g3z,g4z,g10z,g11z,g12z,g13z,hgd,ha1,ha2,hcl,hg1,hg2,hz1,hz2,hid]; rfl)
         refine DP.fcall (hc.2 (gA c q) (gA c a)) rfl rfl (by simp; rfl) hc.1 (by simp (disch:=first|omega|(simp only[ln];omega)) [idf_Wd']) (by simp (disch:=first|omega|(simp only[ln];omega))) (by simp) ?_
         simp only [updo]
         refine .k 3 (fun fs31 hfs31=>?_) (by simp (disch:=first|omega|(simp only[ln];omega)) [List.take_succ_cons,List.take_zero,if_pos]; rfl)
         refine .r 17 (by simp only[ln,hfs30,hfs31];omega) ?_ (by simp (disch:=first|omega|(simp only[ln];omega)) [if_pos]; rfl)
         refine J23 _ ?_
         refine ⟨by simp,by simp; omega,?_,?_,?_,?_,?_,?_,?_,?_,?_,?_,rfl⟩ <;> first|(simp (disch:=omega) [g0z,g1z,g2z,g3z,g4z,g10z,g11z,g12z,g13z,hgd,ltc];done)|(simp;done)|(simp;omega)|(simp (disch:=omega) [g0z,g1z,g2z,g3z,g4z,g10z,g11z,g12z,g13z,hgd,ltc] <;> omega)|(simp (disch:=omega) [g0z,g1z,g2z,g3z,g4z,g10z,g11z,g12z,g13z,hgd,ltc];exact dneg _)
        ·
         refine .df 17 ?_ (by simp (disch:=first|omega|(simp only[ln];omega)) [if_pos,g0z,g1z,g2z,g3z,g4z,g10z,g11z,g12z,g13z,hgd]; rfl)
         refine J23 _ ?_
         refine ⟨by simp,by simp; omega,?_,?_,?_,?_,?_,?_,?_,?_,?_,?_,rfl⟩ <;> first|(simp (disch:=omega) [g0z,g1z,g2z,g3z,g4z,g10z,g11z,g12z,g13z,hgd,ltc];done)|(simp;done)|(simp;omega)|(simp (disch:=omega) [g0z,g1z,g2z,g3z,g4z,g10z,g11z,g12z,g13z,hgd,ltc] <;> omega)|(simp (disch:=omega) [g0z,g1z,g2z,g3z,g4z,g10z,g11z,g12z,g13z,hgd,ltc];exact dneg _)
      by_cases hgd : p ≤ w
      ·have ha1 : Dc[p]? = some (Pt.cells (P (gA c p))):=by rw [hDc]; exact rwA_get (by omega)
       have hg1 : ∀ h : p < Dc.length,Dc[p] = (Pt.cells (P (gA c p))):=fun h=>by rw [List.getElem?_eq_getElem h] at ha1; simpa using ha1
       have ha2 : Dc[a]? = some (Pt.cells (P (gA c a))):=by rw [hDc]; exact rwA_get (by omega)
       have hg2 : ∀ h : a < Dc.length,Dc[a] = (Pt.cells (P (gA c a))):=fun h=>by rw [List.getElem?_eq_getElem h] at ha2; simpa using ha2
       have hcl : Dc.length = n:=by rw [hDc,rwA_len]; assumption
       have hz1 : p < n:=by omega
       have hz2 : a < n:=by omega
       refine .d 16 ?_
       refine .k 13 (fun fs32 hfs32=>?_) (by simp (disch:=first|omega|(simp only[ln];omega)) [List.take_succ_cons,List.take_zero,if_pos,g0v,g1v,g2v,g3v,g4v,g10v,g11v,g12v,g13v,hgd,ha1,ha2,hcl,hg1,hg2,hz1,hz2,hid]; rfl)
       refine DP.fcall (hc.2 (gA c p) (gA c a)) rfl rfl (by simp; rfl) hc.1 (by simp (disch:=first|omega|(simp only[ln];omega)) [idf_Wd']) (by simp (disch:=first|omega|(simp only[ln];omega))) (by simp) ?_
       simp only [updo]
       refine .k 2 (fun fs33 hfs33=>?_) (by simp (disch:=first|omega|(simp only[ln];omega)) [List.take_succ_cons,List.take_zero,if_pos]; rfl)
       refine .r 16 (by simp only[ln,hfs32,hfs33];omega) ?_ (by simp (disch:=first|omega|(simp only[ln];omega)) [if_pos]; rfl)
       refine J20 _ ?_
       refine ⟨by simp,by simp; omega,?_,?_,?_,?_,?_,?_,?_,?_,?_,?_,rfl⟩ <;> first|(simp (disch:=omega) [g0v,g1v,g2v,g3v,g4v,g10v,g11v,g12v,g13v,hgd,ltc];done)|(simp;done)|(simp;omega)|(simp (disch:=omega) [g0v,g1v,g2v,g3v,g4v,g10v,g11v,g12v,g13v,hgd,ltc] <;> omega)
      ·
       refine .df 16 ?_ (by simp (disch:=first|omega|(simp only[ln];omega)) [if_pos,g0v,g1v,g2v,g3v,g4v,g10v,g11v,g12v,g13v,hgd]; rfl)
       refine J20 _ ?_
       refine ⟨by simp,by simp; omega,?_,?_,?_,?_,?_,?_,?_,?_,?_,?_,rfl⟩ <;> first|(simp (disch:=omega) [g0v,g1v,g2v,g3v,g4v,g10v,g11v,g12v,g13v,hgd,ltc];done)|(simp;done)|(simp;omega)|(simp (disch:=omega) [g0v,g1v,g2v,g3v,g4v,g10v,g11v,g12v,g13v,hgd,ltc] <;> omega)
   by_cases hgd : i ≤ j
   ·have ha1 : D1[j]? = some (Pt.cells (P (gA e j))):=by rw [hD1]; exact rwA_get (by omega)
    have hg1 : ∀ h : j < D1.length,D1[j] = (Pt.cells (P (gA e j))):=fun h=>by rw [List.getElem?_eq_getElem h] at ha1; simpa using ha1
    have ha2 : D1[a]? = some (Pt.cells (P (gA e a))):=by rw [hD1]; exact rwA_get (by omega)
    have hg2 : ∀ h : a < D1.length,D1[a] = (Pt.cells (P (gA e a))):=fun h=>by rw [List.getElem?_eq_getElem h] at ha2; simpa using ha2
    have hcl : D1.length = n:=by rw [hD1,rwA_len]; assumption
    have hz1 : j < n:=by omega
    have hz2 : a < n:=by omega
    refine .d 17 ?_
    refine .k 13 (fun fs34 hfs34=>?_) (by simp (disch:=first|omega|(simp only[ln];omega)) [List.take_succ_cons,List.take_zero,if_pos,g0t,g1t,g2t,g3t,g4t,g10t,g11t,g12t,g13t,hgd,ha1,ha2,hcl,hg1,hg2,hz1,hz2,hid]; rfl)
    refine DP.fcall (hc.2 (gA e j) (gA e a)) rfl rfl (by simp; rfl) hc.1 (by simp (disch:=first|omega|(simp only[ln];omega)) [idf_Wd']) (by simp (disch:=first|omega|(simp only[ln];omega))) (by simp) ?_
    simp only [updo]
    refine .k 3 (fun fs35 hfs35=>?_) (by simp (disch:=first|omega|(simp only[ln];omega)) [List.take_succ_cons,List.take_zero,if_pos]; rfl)
    refine .r 17 (by simp only[ln,hfs34,hfs35];omega) ?_ (by simp (disch:=first|omega|(simp only[ln];omega)) [if_pos]; rfl)
    refine J9 _ ?_
    refine ⟨by simp,by simp; omega,?_,?_,?_,?_,?_,?_,?_,?_,?_,?_,rfl⟩ <;> first|(simp (disch:=omega) [g0t,g1t,g2t,g3t,g4t,g10t,g11t,g12t,g13t,hgd,ltc];done)|(simp;done)|(simp;omega)|(simp (disch:=omega) [g0t,g1t,g2t,g3t,g4t,g10t,g11t,g12t,g13t,hgd,ltc] <;> omega)|(simp (disch:=omega) [g0t,g1t,g2t,g3t,g4t,g10t,g11t,g12t,g13t,hgd,ltc];exact dneg _)
   ·
    refine .df 17 ?_ (by simp (disch:=first|omega|(simp only[ln];omega)) [if_pos,g0t,g1t,g2t,g3t,g4t,g10t,g11t,g12t,g13t,hgd]; rfl)
    refine J9 _ ?_
    refine ⟨by simp,by simp; omega,?_,?_,?_,?_,?_,?_,?_,?_,?_,?_,rfl⟩ <;> first|(simp (disch:=omega) [g0t,g1t,g2t,g3t,g4t,g10t,g11t,g12t,g13t,hgd,ltc];done)|(simp;done)|(simp;omega)|(simp (disch:=omega) [g0t,g1t,g2t,g3t,g4t,g10t,g11t,g12t,g13t,hgd,ltc] <;> omega)|(simp (disch:=omega) [g0t,g1t,g2t,g3t,g4t,g10t,g11t,g12t,g13t,hgd,ltc];exact dneg _)
 by_cases hgd : i ≤ jb
 ·have ha1 : D1[i]? = some (Pt.cells (P (gA e i))):=by rw [hD1]; exact rwA_get (by omega)
  have hg1 : ∀ h : i < D1.length,D1[i] = (Pt.cells (P (gA e i))):=fun h=>by rw [List.getElem?_eq_getElem h] at ha1; simpa using ha1
  have ha2 : D1[a]? = some (Pt.cells (P (gA e a))):=by rw [hD1]; exact rwA_get (by omega)
  have hg2 : ∀ h : a < D1.length,D1[a] = (Pt.cells (P (gA e a))):=fun h=>by rw [List.getElem?_eq_getElem h] at ha2; simpa using ha2
  have hcl : D1.length = n:=by rw [hD1,rwA_len]; assumption
  have hz1 : i < n:=by omega
  have hz2 : a < n:=by omega
  refine .d 16 ?_
  refine .k 13 (fun fs36 hfs36=>?_) (by simp (disch:=first|omega|(simp only[ln];omega)) [List.take_succ_cons,List.take_zero,if_pos,g0s,g1s,g2s,g3s,g4s,g10s,g11s,g12s,g13s,hgd,ha1,ha2,hcl,hg1,hg2,hz1,hz2,hid]; rfl)
  refine DP.fcall (hc.2 (gA e i) (gA e a)) rfl rfl (by simp; rfl) hc.1 (by simp (disch:=first|omega|(simp only[ln];omega)) [idf_Wd']) (by simp (disch:=first|omega|(simp only[ln];omega))) (by simp) ?_
  simp only [updo]
  refine .k 2 (fun fs37 hfs37=>?_) (by simp (disch:=first|omega|(simp only[ln];omega)) [List.take_succ_cons,List.take_zero,if_pos]; rfl)
  refine .r 16 (by simp only[ln,hfs36,hfs37];omega) ?_ (by simp (disch:=first|omega|(simp only[ln];omega)) [if_pos]; rfl)
  refine J6 _ ?_
  refine ⟨by simp,by simp; omega,?_,?_,?_,?_,?_,?_,?_,?_,?_,?_,rfl⟩ <;> first|(simp (disch:=omega) [g0s,g1s,g2s,g3s,g4s,g10s,g11s,g12s,g13s,hgd,ltc];done)|(simp;done)|(simp;omega)|(simp (disch:=omega) [g0s,g1s,g2s,g3s,g4s,g10s,g11s,g12s,g13s,hgd,ltc] <;> omega)
 ·
  refine .df 16 ?_ (by simp (disch:=first|omega|(simp only[ln];omega)) [if_pos,g0s,g1s,g2s,g3s,g4s,g10s,g11s,g12s,g13s,hgd]; rfl)
  refine J6 _ ?_
  refine ⟨by simp,by simp; omega,?_,?_,?_,?_,?_,?_,?_,?_,?_,?_,rfl⟩ <;> first|(simp (disch:=omega) [g0s,g1s,g2s,g3s,g4s,g10s,g11s,g12s,g13s,hgd,ltc];done)|(simp;done)|(simp;omega)|(simp (disch:=omega) [g0s,g1s,g2s,g3s,g4s,g10s,g11s,g12s,g13s,hgd,ltc] <;> omega)
set_option maxHeartbeats 4000000 in
theorem peqPt_ac {α : Type} [Inhabited α] (P : α → Pt) (cv : α → α → Int) (f : Nat) (caps : List AV) (hc : CmpF Tryz.prog f caps (fun x=>.agg (Pt.cells (P x))) cv) (d : Array α) (n id : Nat) (HP : Heap) (nx : Nat) (hn : d.size = n) (hH : HP id = some (12,rwA (fun x=>(Pt.cells (P x))) d)) (hid : id < nx) (hl : n ≤ 1099511627776) (a b pivot : Nat) (hap : a ≤ pivot) (hpb : pivot < b) (hb : b ≤ n) : ACall Tryz.prog 288 [.osl id 0 n,.int .i64 (a : Int),.int .i64 (b : Int),.int .i64 (pivot : Int),.fn f caps] HP nx (fun r H' nx'=>r = .int .i64 ((Sort.partitionEqual (ltc cv) d a b pivot).1 : Int) ∧ H' = hupd HP id (some (12,rwA (fun x=>(Pt.cells (P x))) (Sort.partitionEqual (ltc cv) d a b pivot).2)) ∧ nx ≤ nx' ∧ a < (Sort.partitionEqual (ltc cv) d a b pivot).1 ∧ (Sort.partitionEqual (ltc cv) d a b pivot).1 ≤ b ∧ (Sort.partitionEqual (ltc cv) d a b pivot).2.size = n):=by
 refine .b Tryz.func288 90 fun K hK=>?_
 refine .q ?_
 refine .sq fun K2 hK2=>?_
 obtain ⟨D,hD⟩ : ∃ D,D = rwA (fun x=>(Pt.cells (P x))) d:=⟨_,rfl⟩
 rw [← hD] at hH
 have ha1 : D[a]? = some (Pt.cells (P (gA d a))):=by rw [hD]; exact rwA_get (by omega)
 have hg1 : ∀ h : a < D.length,D[a] = (Pt.cells (P (gA d a))):=fun h=>by rw [List.getElem?_eq_getElem h] at ha1; simpa using ha1
 have ha2 : D[pivot]? = some (Pt.cells (P (gA d pivot))):=by rw [hD]; exact rwA_get (by omega)
 have hg2 : ∀ h : pivot < D.length,D[pivot] = (Pt.cells (P (gA d pivot))):=fun h=>by rw [List.getElem?_eq_getElem h] at ha2; simpa using ha2
 have hset : (D.set a (Pt.cells (P (gA d pivot)))).set pivot (Pt.cells (P (gA d a))) = rwA (fun x=>(Pt.cells (P x))) (Sort.swp d a pivot):=by rw [hD]; exact rwA_swp
 have hcl : D.length = n:=by rw [hD,rwA_len]; assumption
 obtain ⟨row,hr1,hr2⟩ : ∃ row,(D.set a (Pt.cells (P (gA d pivot))))[pivot]? = some row ∧ row.length = 12:=by rw [hD]; exact rwA_row (fun _=>rfl) (by omega) (by omega) rfl
 have hr3 : row.drop 12 = []:=List.drop_eq_nil_of_le (by omega)
 have hg3 : ∀ h : pivot < (D.set a (Pt.cells (P (gA d pivot)))).length,(D.set a (Pt.cells (P (gA d pivot))))[pivot] = row:=fun h=>by rw [List.getElem?_eq_getElem h] at hr1; simpa using hr1
 simp only [Pt.cells] at hr1 hg3
 have hz1 : a < n:=by omega
 have hz2 : pivot < n:=by omega
 have hz3 : id < nx:=by omega
 refine .sw 13 [2,3] ?_ (by simp (disch:=first|omega|(simp only[ln];omega)) [if_pos,hz3,ha1,ha2,hcl,hg1,hg2,hg3,hr1,hr2,hr3,hz1,hz2,hid,hset,hupd_same,List.length_set,hH]; rfl) (by simp (disch:=first|omega|(simp only[ln];omega)) [if_pos,hz3,ha1,ha2,hcl,hg1,hg2,hg3,hr1,hr2,hr3,hz1,hz2,hid,hset,hupd_same,List.length_set,hH]; rfl)
 obtain ⟨e,he⟩ : ∃ x,x = Sort.swp d a pivot:=⟨_,rfl⟩
 rw [← he] at hset
 obtain ⟨D1,hD1⟩ : ∃ D1,D1 = rwA (fun x=>(Pt.cells (P x))) e:=⟨_,rfl⟩
 rw [← hD1] at hset
 have hez : e.size = n:=by rw [he,Sort.size_swp]; exact hn
 obtain ⟨jb,hjb⟩ : ∃ x,x = b - 1:=⟨_,rfl⟩
 have ejb : (b : Int) - 1 = (jb : Int):=by omega
 have hP : Sort.partitionEqual (ltc cv) d a b pivot = Sort.partEqLoop (ltc cv) a (a + 1) jb e:=by rw [he,hjb]; rfl
 refine hK2 _ ?_
 refine .q ?_ (by simp (disch:=first|omega|(simp only[ln];omega)) [ejb]; rfl)
 refine .sq fun K4 hK4=>?_
 refine .block ?_
 refine .loop (fun N st=>∃ (u w : Nat) (c : Array α) (Dc : List (List AV)),(N = w + 2 - u) ∧ (a < u) ∧ (u ≤ w + 2) ∧ (w < b) ∧ (u ≤ b) ∧ (c.size = n) ∧ (Sort.partEqLoop (ltc cv) a u w c = Sort.partitionEqual (ltc cv) d a b pivot) ∧ (Dc = rwA (fun x=>(Pt.cells (P x))) c) ∧ (st.heap = hupd HP id (some (12,Dc))) ∧ (nx ≤ st.nx) ∧ st.env 0 = .osl id 0 n ∧ st.env 1 = .int .i64 (a : Int) ∧ st.env 2 = .int .i64 (b : Int) ∧ st.env 3 = .int .i64 (pivot : Int) ∧ st.env 4 = .fn f caps ∧ st.env 10 = .int .i64 0 ∧ st.env 11 = .int .i64 (u : Int) ∧ st.env 12 = .int .i64 (w : Int) ∧ st.nt = 90) (jb + 2 - (a + 1)) (by refine ⟨a + 1,jb,e,D1,rfl,by omega,by omega,by omega,by omega,hez,hP.symm,hD1,by first|(simp;done)|(simp only [hupd_same];exact congrArg (fun x=>hupd HP id (some (12,x))) hset),by first|(simp;done)|(simp;omega),?_,?_,?_,?_,?_,?_,?_,?_,rfl⟩ <;> first|(simp (disch:=omega) [ejb];done)|omega|(simp;done)|(simp;omega)|(simp (disch:=omega) [ejb] <;> omega)) ?_
 rintro N ⟨e0,H,mm,nt⟩ ⟨u,w,c,Dc,rfl,ho1,ho2,ho3,ho4,hcz,hC,hDc,rfl,hno,g0o,g1o,g2o,g3o,g4o,g10o,g11o,g12o,rfl⟩
 simp only [] at g0o g1o g2o g3o g4o g10o g11o g12o hno
 refine .block ?_
 refine .sq fun K5 hK5=>?_
 refine .block ?_
 refine .loop (fun N st=>∃ (p : Nat),(N = w + 2 - p) ∧ (u ≤ p) ∧ (p ≤ w + 2) ∧ (p ≤ b) ∧ (Sort.scanUp (fun y=>!ltc cv (gA c a) y) c w p = Sort.scanUp (fun y=>!ltc cv (gA c a) y) c w u) ∧ (st.heap = hupd HP id (some (12,Dc))) ∧ (nx ≤ st.nx) ∧ st.env 0 = .osl id 0 n ∧ st.env 1 = .int .i64 (a : Int) ∧ st.env 2 = .int .i64 (b : Int) ∧ st.env 3 = .int .i64 (pivot : Int) ∧ st.env 4 = .fn f caps ∧ st.env 10 = .int .i64 0 ∧ st.env 11 = .int .i64 (p : Int) ∧ st.env 12 = .int .i64 (w : Int) ∧ st.nt = 90) (w + 2 - u) (by refine ⟨u,rfl,Nat.le_refl _,by omega,by omega,rfl,by first|(simp;done)|(simp only [hupd_same];exact congrArg (fun x=>hupd HP id (some (12,x))) hset)|(simp only [hupd_same]),by first|(simp;done)|(simp;omega),?_,?_,?_,?_,?_,?_,?_,?_,rfl⟩ <;> first|(simp (disch:=omega) [g0o,g1o,g2o,g3o,g4o,g10o,g11o,g12o];done)|omega|(simp;done)|(simp;omega)|(simp (disch:=omega) [g0o,g1o,g2o,g3o,g4o,g10o,g11o,g12o] <;> omega)) ?_
 rintro N ⟨e0,H,mm,nt⟩ ⟨p,rfl,h1p,h2p,h3p,hSp,rfl,hnv,g0v,g1v,g2v,g3v,g4v,g10v,g11v,g12v,rfl⟩
 simp only [] at g0v g1v g2v g3v g4v g10v g11v g12v hnv
 refine .sq fun K6 hK6=>?_
 refine .sq fun K7 hK7=>?_
 have J7 : ∀ s : St,((s.heap = hupd HP id (some (12,Dc))) ∧ (nx ≤ s.nx) ∧ s.env 0 = .osl id 0 n ∧ s.env 1 = .int .i64 (a : Int) ∧ s.env 2 = .int .i64 (b : Int) ∧ s.env 3 = .int .i64 (pivot : Int) ∧ s.env 4 = .fn f caps ∧ s.env 10 = .int .i64 0 ∧ s.env 11 = .int .i64 (p : Int) ∧ s.env 12 = .int .i64 (w : Int) ∧ s.env 47 = .bool (decide (p ≤ w ∧ ltc cv (gA c a) (gA c p) = false)) ∧ s.nt = 90) → K7 s:=by
  rintro ⟨e0,H,mm,nt⟩ ⟨rfl,hnvvq,g0vq,g1vq,g2vq,g3vq,g4vq,g10vq,g11vq,g12vq,g47vq,rfl⟩
  simp only [] at g0vq g1vq g2vq g3vq g4vq g10vq g11vq g12vq g47vq
  simp only [] at hnvvq
  refine hK7 _ ?_
  refine .c (t:=decide (p ≤ w ∧ ltc cv (gA c a) (gA c p) = false)) (fun h47=>?_) (fun h47=>?_) (by simp (disch:=first|omega|(simp only[ln];omega)) [g47vq])
  ·simp only [dc] at h47
   refine .skip ?_
   refine hK6 _ ?_
   refine .block ?_
   refine .r ?_ (by simp (disch:=first|omega|(simp only[ln];omega)) [g0vq,g1vq,g2vq,g3vq,g4vq,g10vq,g11vq,g12vq,g47vq]; rfl)
   refine ⟨w + 2 - (p + 1),by omega,p + 1,rfl,by omega,by omega,by omega,by rw [← hSp,scanUp_pos h47.1 (by simp [h47.2])],by simp,by simp; omega,?_,?_,?_,?_,?_,?_,?_,?_,rfl⟩ <;> first|(simp (disch:=omega) [g0vq,g1vq,g2vq,g3vq,g4vq,g10vq,g11vq,g12vq,g47vq];done)|omega|(simp;done)|(simp;omega)|(simp (disch:=omega) [g0vq,g1vq,g2vq,g3vq,g4vq,g10vq,g11vq,g12vq,g47vq] <;> omega)
  ·simp only [dc] at h47
   rw [scanUp_neg (fun h=>h47 ⟨h.1,by simpa using h.2⟩)] at hSp
   refine .exit ?_
   refine hK5 _ ?_
   refine .sq fun K8 hK8=>?_
   refine .block ?_
   refine .loop (fun N st=>∃ (q : Nat),(N = q) ∧ (p ≤ q + 2) ∧ (q ≤ w) ∧ (True) ∧ (Sort.scanDown (fun y=>ltc cv (gA c a) y) c p q = Sort.scanDown (fun y=>ltc cv (gA c a) y) c p w) ∧ (st.heap = hupd HP id (some (12,Dc))) ∧ (nx ≤ st.nx) ∧ st.env 0 = .osl id 0 n ∧ st.env 1 = .int .i64 (a : Int) ∧ st.env 2 = .int .i64 (b : Int) ∧ st.env 3 = .int .i64 (pivot : Int) ∧ st.env 4 = .fn f caps ∧ st.env 10 = .int .i64 0 ∧ st.env 11 = .int .i64 (p : Int) ∧ st.env 12 = .int .i64 (q : Int) ∧ st.nt = 90) (w) (by refine ⟨w,rfl,by omega,Nat.le_refl _,trivial,rfl,by first|(simp;done)|(simp only [hupd_same];exact congrArg (fun x=>hupd HP id (some (12,x))) hset)|(simp only [hupd_same]),by first|(simp;done)|(simp;omega),?_,?_,?_,?_,?_,?_,?_,?_,rfl⟩ <;> first|(simp (disch:=omega) [g0vq,g1vq,g2vq,g3vq,g4vq,g10vq,g11vq,g12vq,g47vq];done)|omega|(simp;done)|(simp;omega)|(simp (disch:=omega) [g0vq,g1vq,g2vq,g3vq,g4vq,g10vq,g11vq,g12vq,g47vq] <;> omega)) ?_
   rintro N ⟨e0,H,mm,nt⟩ ⟨q,hNq,h1q,h2q,h3q,hSq,rfl,hnz,g0z,g1z,g2z,g3z,g4z,g10z,g11z,g12z,rfl⟩
   simp only [] at g0z g1z g2z g3z g4z g10z g11z g12z hnz
   refine .sq fun K9 hK9=>?_
   refine .sq fun K10 hK10=>?_
   have J10 : ∀ s : St,((s.heap = hupd HP id (some (12,Dc))) ∧ (nx ≤ s.nx) ∧ s.env 0 = .osl id 0 n ∧ s.env 1 = .int .i64 (a : Int) ∧ s.env 2 = .int .i64 (b : Int) ∧ s.env 3 = .int .i64 (pivot : Int) ∧ s.env 4 = .fn f caps ∧ s.env 10 = .int .i64 0 ∧ s.env 11 = .int .i64 (p : Int) ∧ s.env 12 = .int .i64 (q : Int) ∧ s.env 65 = .bool (decide (p ≤ q ∧ ltc cv (gA c a) (gA c q) = true)) ∧ s.nt = 90) → K10 s:=by
    rintro ⟨e0,H,mm,nt⟩ ⟨rfl,hnzzq,g0zq,g1zq,g2zq,g3zq,g4zq,g10zq,g11zq,g12zq,g65zq,rfl⟩
    simp only [] at g0zq g1zq g2zq g3zq g4zq g10zq g11zq g12zq g65zq
    simp only [] at hnzzq
    refine hK10 _ ?_
    refine .c (t:=decide (p ≤ q ∧ ltc cv (gA c a) (gA c q) = true)) (fun h65=>?_) (fun h65=>?_) (by simp (disch:=first|omega|(simp only[ln];omega)) [g65zq])
    ·simp only [dc] at h65
     refine .skip ?_
     refine hK9 _ ?_
     refine .block ?_
     refine .r ?_ (by simp (disch:=first|omega|(simp only[ln];omega)) [g0zq,g1zq,g2zq,g3zq,g4zq,g10zq,g11zq,g12zq,g65zq]; rfl)
     refine ⟨q - 1,by omega,q - 1,rfl,by omega,by omega,trivial,by rw [← hSq,scanDown_pos (by omega) h65.1 (by simp [h65.2])],by simp,by simp; omega,?_,?_,?_,?_,?_,?_,?_,?_,rfl⟩ <;> first|(simp (disch:=omega) [g0zq,g1zq,g2zq,g3zq,g4zq,g10zq,g11zq,g12zq,g65zq];done)|omega|(simp;done)|(simp;omega)|(simp (disch:=omega) [g0zq,g1zq,g2zq,g3zq,g4zq,g10zq,g11zq,g12zq,g65zq] <;> omega)
    ·simp only [dc] at h65
     rw [scanDown_neg (fun h=>h65 ⟨h.1,by simpa using h.2⟩)] at hSq
     refine .exit ?_
     refine hK8 _ ?_
     refine .sq fun K11 hK11=>?_
     refine .q ?_ (by simp (disch:=first|omega|(simp only[ln];omega)) [g0zq,g1zq,g2zq,g3zq,g4zq,g10zq,g11zq,g12zq,g65zq]; rfl)
     refine .c (t:=decide ((q : Int) < (p : Int))) (fun h70=>?_) (fun h70=>?_)
     ·try simp only[dc]at h70
      have hR:=partEq_stop hSp hSq (by omega)
      rw [hC] at hR
      refine .exit ?_
      refine hK4 _ ?_
      refine .q ?_ (by simp (disch:=first|omega|(simp only[ln];omega)) [g0zq,g1zq,g2zq,g3zq,g4zq,g10zq,g11zq,g12zq,g65zq]; rfl)
      refine .ret ?_
      exact hK _ _ _ _ _ trivial (Fin.m) (⟨by rw [hR],by rw [hR,hDc],by simp; omega,by rw [hR]; exact ⟨by simp only []; omega,by simp only []; omega,hcz⟩⟩)
     ·try simp only[dc]at h70
      have eqm : (q : Int) - 1 = ((q - 1 : Nat) : Int):=by omega
      refine .skip ?_
      refine hK11 _ ?_
      refine .sq fun K14 hK14=>?_
      have ha1 : Dc[p]? = some (Pt.cells (P (gA c p))):=by rw [hDc]; exact rwA_get (by omega)
      have hg1 : ∀ h : p < Dc.length,Dc[p] = (Pt.cells (P (gA c p))):=fun h=>by rw [List.getElem?_eq_getElem h] at ha1; simpa using ha1
      have ha2 : Dc[q]? = some (Pt.cells (P (gA c q))):=by rw [hDc]; exact rwA_get (by omega)
      have hg2 : ∀ h : q < Dc.length,Dc[q] = (Pt.cells (P (gA c q))):=fun h=>by rw [List.getElem?_eq_getElem h] at ha2; simpa using ha2
      have hset : (Dc.set p (Pt.cells (P (gA c q)))).set q (Pt.cells (P (gA c p))) = rwA (fun x=>(Pt.cells (P x))) (Sort.swp c p q):=by rw [hDc]; exact rwA_swp
      have hcl : Dc.length = n:=by rw [hDc,rwA_len]; assumption
      obtain ⟨row,hr1,hr2⟩ : ∃ row,(Dc.set p (Pt.cells (P (gA c q))))[q]? = some row ∧ row.length = 12:=by rw [hDc]; exact rwA_row (fun _=>rfl) (by omega) (by omega) rfl
      have hr3 : row.drop 12 = []:=List.drop_eq_nil_of_le (by omega)
      have hg3 : ∀ h : q < (Dc.set p (Pt.cells (P (gA c q)))).length,(Dc.set p (Pt.cells (P (gA c q))))[q] = row:=fun h=>by rw [List.getElem?_eq_getElem h] at hr1; simpa using hr1
      simp only [Pt.cells] at hr1 hg3
      have hz1 : p < n:=by omega
      have hz2 : q < n:=by omega
      have hz3 : id < mm:=by omega
      refine .sw 13 [2,3] ?_ (by simp (disch:=first|omega|(simp only[ln];omega)) [if_pos,g0zq,g1zq,g2zq,g3zq,g4zq,g10zq,g11zq,g12zq,g65zq,hz3,ha1,ha2,hcl,hg1,hg2,hg3,hr1,hr2,hr3,hz1,hz2,hid,hset,hupd_same,List.length_set]; rfl) (by simp (disch:=first|omega|(simp only[ln];omega)) [if_pos,g0zq,g1zq,g2zq,g3zq,g4zq,g10zq,g11zq,g12zq,g65zq,hz3,ha1,ha2,hcl,hg1,hg2,hg3,hr1,hr2,hr3,hz1,hz2,hid,hset,hupd_same,List.length_set]; rfl)
      refine hK14 _ ?_
      refine .q ?_ (by simp (disch:=first|omega|(simp only[ln];omega)) [g0zq,g1zq,g2zq,g3zq,g4zq,g10zq,g11zq,g12zq,g65zq]; rfl)
      refine .r ?_ (by simp (disch:=first|omega|(simp only[ln];omega)) [g0zq,g1zq,g2zq,g3zq,g4zq,g10zq,g11zq,g12zq,g65zq,eqm]; rfl)
      refine ⟨(q - 1) + 2 - (p + 1),by omega,p + 1,q - 1,Sort.swp c p q,_,rfl,by omega,by omega,by omega,by omega,by rw [Sort.size_swp]; exact hcz,by rw [← hC,partEq_go hSp hSq (by omega)],rfl,by simp only [hupd_same]; exact congrArg (fun x=>hupd HP id (some (12,x))) hset,by simp; omega,?_,?_,?_,?_,?_,?_,?_,?_,rfl⟩ <;> first|(simp (disch:=omega) [g0zq,g1zq,g2zq,g3zq,g4zq,g10zq,g11zq,g12zq,g65zq,eqm];done)|omega|(simp;done)|(simp;omega)|(simp (disch:=omega) [g0zq,g1zq,g2zq,g3zq,g4zq,g10zq,g11zq,g12zq,g65zq,eqm] <;> omega)
   by_cases hgd : p ≤ q
   ·have ha1 : Dc[a]? = some (Pt.cells (P (gA c a))):=by rw [hDc]; exact rwA_get (by omega)
    have hg1 : ∀ h : a < Dc.length,Dc[a] = (Pt.cells (P (gA c a))):=fun h=>by rw [List.getElem?_eq_getElem h] at ha1; simpa using ha1
    have ha2 : Dc[q]? = some (Pt.cells (P (gA c q))):=by rw [hDc]; exact rwA_get (by omega)
    have hg2 : ∀ h : q < Dc.length,Dc[q] = (Pt.cells (P (gA c q))):=fun h=>by rw [List.getElem?_eq_getElem h] at ha2; simpa using ha2
    have hcl : Dc.length = n:=by rw [hDc,rwA_len]; assumption
    have hz1 : a < n:=by omega
    have hz2 : q < n:=by omega
    refine .d 16 ?_
    refine .k 13 (fun fs16 hfs16=>?_) (by simp (disch:=first|omega|(simp only[ln];omega)) [List.take_succ_cons,List.take_zero,if_pos,g0z,g1z,g2z,g3z,g4z,g10z,g11z,g12z,hgd,ha1,ha2,hcl,hg1,hg2,hz1,hz2,hid]; rfl)
    refine DP.fcall (hc.2 (gA c a) (gA c q)) rfl rfl (by simp; rfl) hc.1 (by simp (disch:=first|omega|(simp only[ln];omega)) [idf_Wd']) (by simp (disch:=first|omega|(simp only[ln];omega))) (by simp) ?_
    simp only [updo]
    refine .k 2 (fun fs17 hfs17=>?_) (by simp (disch:=first|omega|(simp only[ln];omega)) [List.take_succ_cons,List.take_zero,if_pos]; rfl)
    refine .r 16 (by simp only[ln,hfs16,hfs17];omega) ?_ (by simp (disch:=first|omega|(simp only[ln];omega)) [if_pos]; rfl)
    refine J10 _ ?_
    refine ⟨by simp,by simp; omega,?_,?_,?_,?_,?_,?_,?_,?_,?_,rfl⟩ <;> first|(simp (disch:=omega) [g0z,g1z,g2z,g3z,g4z,g10z,g11z,g12z,hgd,ltc];done)|(simp;done)|(simp;omega)|(simp (disch:=omega) [g0z,g1z,g2z,g3z,g4z,g10z,g11z,g12z,hgd,ltc] <;> omega)
   ·
    refine .df 16 ?_ (by simp (disch:=first|omega|(simp only[ln];omega)) [if_pos,g0z,g1z,g2z,g3z,g4z,g10z,g11z,g12z,hgd]; rfl)
    refine J10 _ ?_
    refine ⟨by simp,by simp; omega,?_,?_,?_,?_,?_,?_,?_,?_,?_,rfl⟩ <;> first|(simp (disch:=omega) [g0z,g1z,g2z,g3z,g4z,g10z,g11z,g12z,hgd,ltc];done)|(simp;done)|(simp;omega)|(simp (disch:=omega) [g0z,g1z,g2z,g3z,g4z,g10z,g11z,g12z,hgd,ltc] <;> omega)
 by_cases hgd : p ≤ w
 ·have ha1 : Dc[a]? = some (Pt.cells (P (gA c a))):=by rw [hDc]; exact rwA_get (by omega)
  have hg1 : ∀ h : a < Dc.length,Dc[a] = (Pt.cells (P (gA c a))):=fun h=>by rw [List.getElem?_eq_getElem h] at ha1; simpa using ha1
  have ha2 : Dc[p]? = some (Pt.cells (P (gA c p))):=by rw [hDc]; exact rwA_get (by omega)
  have hg2 : ∀ h : p < Dc.length,Dc[p] = (Pt.cells (P (gA c p))):=fun h=>by rw [List.getElem?_eq_getElem h] at ha2; simpa using ha2
  have hcl : Dc.length = n:=by rw [hDc,rwA_len]; assumption
  have hz1 : a < n:=by omega
  have hz2 : p < n:=by omega
  refine .d 17 ?_
  refine .k 13 (fun fs18 hfs18=>?_) (by simp (disch:=first|omega|(simp only[ln];omega)) [List.take_succ_cons,List.take_zero,if_pos,g0v,g1v,g2v,g3v,g4v,g10v,g11v,g12v,hgd,ha1,ha2,hcl,hg1,hg2,hz1,hz2,hid]; rfl)
  refine DP.fcall (hc.2 (gA c a) (gA c p)) rfl rfl (by simp; rfl) hc.1 (by simp (disch:=first|omega|(simp only[ln];omega)) [idf_Wd']) (by simp (disch:=first|omega|(simp only[ln];omega))) (by simp) ?_
  simp only [updo]
  refine .k 3 (fun fs19 hfs19=>?_) (by simp (disch:=first|omega|(simp only[ln];omega)) [List.take_succ_cons,List.take_zero,if_pos]; rfl)
  refine .r 17 (by simp only[ln,hfs18,hfs19];omega) ?_ (by simp (disch:=first|omega|(simp only[ln];omega)) [if_pos]; rfl)
  refine J7 _ ?_
  refine ⟨by simp,by simp; omega,?_,?_,?_,?_,?_,?_,?_,?_,?_,rfl⟩ <;> first|(simp (disch:=omega) [g0v,g1v,g2v,g3v,g4v,g10v,g11v,g12v,hgd,ltc];done)|(simp;done)|(simp;omega)|(simp (disch:=omega) [g0v,g1v,g2v,g3v,g4v,g10v,g11v,g12v,hgd,ltc] <;> omega)|(simp (disch:=omega) [g0v,g1v,g2v,g3v,g4v,g10v,g11v,g12v,hgd,ltc];exact dneg _)
 ·
  refine .df 17 ?_ (by simp (disch:=first|omega|(simp only[ln];omega)) [if_pos,g0v,g1v,g2v,g3v,g4v,g10v,g11v,g12v,hgd]; rfl)
  refine J7 _ ?_
  refine ⟨by simp,by simp; omega,?_,?_,?_,?_,?_,?_,?_,?_,?_,rfl⟩ <;> first|(simp (disch:=omega) [g0v,g1v,g2v,g3v,g4v,g10v,g11v,g12v,hgd,ltc];done)|(simp;done)|(simp;omega)|(simp (disch:=omega) [g0v,g1v,g2v,g3v,g4v,g10v,g11v,g12v,hgd,ltc] <;> omega)|(simp (disch:=omega) [g0v,g1v,g2v,g3v,g4v,g10v,g11v,g12v,hgd,ltc];exact dneg _)
end

end Go.Proofs.YtaibemhdfhchfaaGreat
