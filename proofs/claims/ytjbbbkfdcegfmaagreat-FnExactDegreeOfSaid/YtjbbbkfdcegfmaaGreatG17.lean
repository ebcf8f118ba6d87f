/- Walks: points in order, between, crossings (both). -/
import Derived.Test.YtjbbbkfdcegfmaaGreatG16

namespace Go.Proofs.YtjbbbkfdcegfmaaGreat
open Go Go.RowKit
set_option linter.unusedSimpArgs false
set_option linter.unusedVariables false
set_option maxRecDepth 100000
attribute [local simp] szT2 byT2 agT2 unT2 zoT2 szT4 byT4 agT4 unT4 zoT4 szT60 byT60 agT60 flT60 fdT60_0 fdT60_1 fdT60_2 fdT60_3 zoT60 szT62 byT62 agT62 flT62 fdT62_0 fdT62_1 fdT62_2 zoT62 szT103 byT103 agT103 elT103 unT103 zoT103 szT105 byT105 agT105 flT105 fdT105_0 fdT105_1 zoT105 szT107 byT107 agT107 flT107 fdT107_0 fdT107_1 fdT107_2 zoT107 szT188 byT188 agT188 elT188 unT188 zoT188 szT190 byT190 agT190 flT190 fdT190_0 fdT190_1 zoT190 szT192 byT192 agT192 flT192 fdT192_0 fdT192_1 fdT192_2 zoT192 srT103 srT188

theorem beqd (a b : Int) : (a == b) = decide (a = b):=by rw [Bool.eq_iff_iff]; simp
theorem eqW4n (n : Nat) (a b c d a' b' c' d' : Int) : eqW Tryz.prog (n + 2) 60 [.int .u64 a,.int .u64 b,.int .u64 c,.int .u64 d] [.int .u64 a',.int .u64 b',.int .u64 c',.int .u64 d'] = some ((a == a') && ((b == b') && ((c == c') && ((d == d') && true)))):=by
  have hs : Tryz.prog.stoodInHeld 60 = false:=by kernel_rfl
  have hz : szOf Tryz.prog 52 = some 1:=by kernel_rfl
  have ha : aggT Tryz.prog 52 = some false:=by kernel_rfl
  unfold eqW
  simp only [Tryz.underlying60,hs]
  simp [eqF,hz,ha,eqW1]
theorem eqPt (p q : Pt) : eqW Tryz.prog 8 62 [.int .u64 p.x.a,.int .u64 p.x.b,.int .u64 p.x.c,.int .u64 p.x.d,.int .u64 p.y.a,.int .u64 p.y.b,.int .u64 p.y.c,.int .u64 p.y.d,.int .u64 p.w.a,.int .u64 p.w.b,.int .u64 p.w.c,.int .u64 p.w.d] [.int .u64 q.x.a,.int .u64 q.x.b,.int .u64 q.x.c,.int .u64 q.x.d,.int .u64 q.y.a,.int .u64 q.y.b,.int .u64 q.y.c,.int .u64 q.y.d,.int .u64 q.w.a,.int .u64 q.w.b,.int .u64 q.w.c,.int .u64 q.w.d] = some (decide (p = q)):=by
  have hs : Tryz.prog.stoodInHeld 62 = false:=by kernel_rfl
  have hz : szOf Tryz.prog 60 = some 4:=by kernel_rfl
  have ha : aggT Tryz.prog 60 = some true:=by kernel_rfl
  unfold eqW
  simp only [Tryz.underlying62,hs]
  simp [eqF,hz,ha,eqW4n]
  obtain ⟨⟨a1,a2,a3,a4⟩,⟨b1,b2,b3,b4⟩,⟨c1,c2,c3,c4⟩⟩:=p
  obtain ⟨⟨d1,d2,d3,d4⟩,⟨e1,e2,e3,e4⟩,⟨f1,f2,f3,f4⟩⟩:=q
  rw [Bool.eq_iff_iff]
  simp [Pt.mk.injEq,W4.mk.injEq,and_assoc]
theorem cmV_self (p : Pt) : cmV p p = 0:=by
  have:=cmV_anti p p; omega
section
attribute [local simp] idf_numS cells_numS numS_fold idf_numI cells_numI numI_fold Pt.av Pt.cells spA spC
set_option maxHeartbeats 2000000 in
theorem cmpPoints_fc (p q : Pt) (hp : p.ok) (hq : q.ok) : FC Tryz.prog 159 [p.av,q.av] (.int .i64 (cmV p q)):=by
 have pX:=W4.bg hp.1
 have pY:=W4.bg hp.2.1
 have pW:=W4.bg hp.2.2
 have qX:=W4.bg hq.1
 have qY:=W4.bg hq.2.1
 have qW:=W4.bg hq.2.2
 have hcx : FC Tryz.prog 142 [numI (p.x.v * q.w.v),numI (q.x.v * p.w.v)] (.int .i64 (cmX p q)):=cmp_fc (pX.mul qW) (qX.mul pW) (by omega) (by omega)
 have hcy : FC Tryz.prog 142 [numI (p.y.v * q.w.v),numI (q.y.v * p.w.v)] (.int .i64 (cmY p q)):=cmp_fc (pY.mul qW) (qY.mul pW) (by omega) (by omega)
 refine .b Tryz.func159 40 (fun nx K hK=>?_) (hi:=by simp [idfL,idf,Pt.av,Pt.cells])
 refine .q ?_
 refine .sq fun K2 hK2=>?_
 refine .q ?_ (by simp (disch:=first|exact zd|fail) [eqPt]; rfl)
 refine .c (t:=decide (p = q)) (fun h10=>?_) (fun h10=>?_)
 ·try simp only[dc]at h10
  subst h10
  refine .q ?_
  refine .ret ?_
  exact hK _ _ _ _ trivial ((Fin.m).cast (by rw [cmV_self]))
 ·try simp only[dc]at h10
  refine .skip ?_
  refine hK2 _ ?_
  refine .sq fun K5 hK5=>?_
  refine .old fun hold=>?_
  refine .d 6 ?_
  refine .k 1 (fun fs6 hfs6=>?_)
  refine .f (spot_fc p hp) hb138 ?_
  refine DP.runF1q (by simp (disch:=first|exact zd|fail); rfl) fun fq7 hfq7=>?_
  simp [qids,asksB,Op.operands,topId] at hfq7
  simp only [updo]
  refine .f (spot_fc q hq) hb138 ?_
  refine .k 2 (fun fs8 hfs8=>?_)
  refine DQ.sto1 (m:=6) [2] _ (by simp (disch:=first|exact zd|fail); rfl) rfl (by simp only[ln,hfs6,hfs8];omega) (by kernel_rfl) (by intro k f hk hex; simp only [List.mem_cons,List.not_mem_nil,or_false] at hex; rcases hex with rfl <;> (simp [List.getElem?_append,hfs6,hfs8] at hk; subst hk; refine ⟨?_,by first | omega | (simp; done) | (simp; omega)⟩; simp [qids,asksB,Op.operands,Call.operands,topId,numS,numI,Wd,hfq7]; try omega)) ?_
  try simp only []
  refine DQ.sto1 (m:=6) [] _ (by simp (disch:=first|exact zd|fail); rfl) rfl (by simp only[ln,hfs6,hfs8];omega) (by kernel_rfl) (by intro k f hk hex; simp only [List.not_mem_nil] at hex) ?_
  try simp only []
  refine hK5 _ ?_
  refine .sq fun K9 hK9=>?_
  refine .sq fun K10 hK10=>?_
  refine .d 11 ?_
  refine .k 4 (fun fs11 hfs11=>?_)
  refine .f (by_fc pX qW (by omega) (by omega)) hb197 ?_
  refine .k 4 (fun fs12 hfs12=>?_)
  refine .f (by_fc qX pW (by omega) (by omega)) hb197 ?_
  refine .f hcx hb142 ?_
  refine .r 11 (by simp only[ln,hfs11,hfs12];omega) ?_
  refine hK10 _ ?_
  refine .q ?_
  refine .c (t:=cmX p q != 0) (fun h27=>?_) (fun h27=>?_) (by simp (disch:=first|exact zd|fail) [bne])
  ·try simp only[dc]at h27
   have hne : cmX p q ≠ 0:=by simpa using h27
   refine .q ?_
   refine .ret ?_
   exact hK _ _ _ _ trivial ((Fin.m).cast (by rw [cmV,if_pos hne]))
  ·try simp only[dc]at h27
   have hne : ¬ cmX p q ≠ 0:=by simpa using h27
   refine .skip ?_
   refine hK9 _ ?_
   refine .sq fun K15 hK15=>?_
   refine .d 11 ?_
   refine .k 4 (fun fs16 hfs16=>?_)
   refine .f (by_fc pY qW (by omega) (by omega)) hb197 ?_
   refine .k 4 (fun fs17 hfs17=>?_)
   refine .f (by_fc qY pW (by omega) (by omega)) hb197 ?_
   refine .f hcy hb142 ?_
   refine .r 11 (by simp only[ln,hfs16,hfs17];omega) ?_
   refine hK15 _ ?_
   refine .ret ?_
   exact hK _ _ _ _ trivial ((Fin.m).cast (by rw [cmV,if_neg hne]))
end
section
attribute [local simp] idf_numS cells_numS numS_fold idf_numI cells_numI numI_fold l3A l3C
theorem l3CmpX_fc (p q : Pt) (hp : p.ok) (hq : q.ok) : FC Tryz.prog 231 [l3A p.x.v p.y.v p.w.v,l3A q.x.v q.y.v q.w.v] (.int .i64 (cmX p q)):=by
 have pX:=W4.bg hp.1
 have pY:=W4.bg hp.2.1
 have pW:=W4.bg hp.2.2
 have qX:=W4.bg hq.1
 have qY:=W4.bg hq.2.1
 have qW:=W4.bg hq.2.2
 have hcx : FC Tryz.prog 132 [numS (p.x.v * q.w.v),numS (q.x.v * p.w.v)] (.int .i64 (cmX p q)):=l1Cmp_fc (pX.mul qW) (qX.mul pW) (by omega) (by omega)
 refine .b Tryz.func231 16 (fun nx K hK=>?_) (hi:=by simp [idfL,idf,l3A,l3C,idf_Wd'])
 refine .q ?_
 refine .sq fun K2 hK2=>?_
 refine .d 11 ?_
 refine .k 4 (fun fs3 hfs3=>?_)
 refine .f (l1Mul_fc pX qW (by omega) (by omega)) hb165 ?_
 refine .k 4 (fun fs4 hfs4=>?_)
 refine .f (l1Mul_fc qX pW (by omega) (by omega)) hb165 ?_
 refine .f hcx hb132 ?_
 refine .r 11 (by simp only[ln,hfs3,hfs4];omega) ?_
 refine hK2 _ ?_
 refine .ret ?_
 exact hK _ _ _ _ trivial (Fin.m)
theorem l3CmpY_fc (p q : Pt) (hp : p.ok) (hq : q.ok) : FC Tryz.prog 232 [l3A p.x.v p.y.v p.w.v,l3A q.x.v q.y.v q.w.v] (.int .i64 (cmY p q)):=by
 have pX:=W4.bg hp.1
 have pY:=W4.bg hp.2.1
 have pW:=W4.bg hp.2.2
 have qX:=W4.bg hq.1
 have qY:=W4.bg hq.2.1
 have qW:=W4.bg hq.2.2
 have hcy : FC Tryz.prog 132 [numS (p.y.v * q.w.v),numS (q.y.v * p.w.v)] (.int .i64 (cmY p q)):=l1Cmp_fc (pY.mul qW) (qY.mul pW) (by omega) (by omega)
 refine .b Tryz.func232 16 (fun nx K hK=>?_) (hi:=by simp [idfL,idf,l3A,l3C,idf_Wd'])
 refine .q ?_
 refine .sq fun K2 hK2=>?_
 refine .d 11 ?_
 refine .k 4 (fun fs3 hfs3=>?_)
 refine .f (l1Mul_fc pY qW (by omega) (by omega)) hb165 ?_
 refine .k 4 (fun fs4 hfs4=>?_)
 refine .f (l1Mul_fc qY pW (by omega) (by omega)) hb165 ?_
 refine .f hcy hb132 ?_
 refine .r 11 (by simp only[ln,hfs3,hfs4];omega) ?_
 refine hK2 _ ?_
 refine .ret ?_
 exact hK _ _ _ _ trivial (Fin.m)
theorem l3Cmp_fc (p q : Pt) (hp : p.ok) (hq : q.ok) : FC Tryz.prog 177 [l3A p.x.v p.y.v p.w.v,l3A q.x.v q.y.v q.w.v] (.int .i64 (cmV p q)):=by
 refine .b Tryz.func177 15 (fun nx K hK=>?_) (hi:=by simp [idfL,idf,l3A,l3C,idf_Wd'])
 refine .q ?_
 refine .sq fun K2 hK2=>?_
 refine .region ?_
 refine .kf 2 (l3CmpX_fc p q hp hq) hb231 ?_
 refine .e ?_
 refine hK2 _ ?_
 refine .sq fun K3 hK3=>?_
 refine .q ?_
 refine .c (t:=cmX p q != 0) (fun h10=>?_) (fun h10=>?_) (by simp (disch:=first|exact zd|fail) [bne])
 ·try simp only[dc]at h10
  have hne : cmX p q ≠ 0:=by simpa using h10
  refine .q ?_
  refine .ret ?_
  exact hK _ _ _ _ trivial ((Fin.m).cast (by rw [cmV,if_pos hne]))
 ·try simp only[dc]at h10
  have hne : ¬ cmX p q ≠ 0:=by simpa using h10
  refine .skip ?_
  refine hK3 _ ?_
  refine .sq fun K6 hK6=>?_
  refine .region ?_
  refine .kf 2 (l3CmpY_fc p q hp hq) hb232 ?_
  refine .e ?_
  refine hK6 _ ?_
  refine .ret ?_
  exact hK _ _ _ _ trivial ((Fin.m).cast (by rw [cmV,if_neg hne]))
set_option maxHeartbeats 2000000 in
theorem l3Between_fc (p q r : Pt) (hp : p.ok) (hq : q.ok) (hr : r.ok) : FC Tryz.prog 136 [l3A p.x.v p.y.v p.w.v,l3A q.x.v q.y.v q.w.v,l3A r.x.v r.y.v r.w.v] (.bool (btS p q r)):=by
 refine .b Tryz.func136 30 (fun nx K hK=>?_) (hi:=by simp [idfL,idf,l3A,l3C,idf_Wd'])
 refine .q ?_
 refine .sq fun K2 hK2=>?_
 refine .sq fun K3 hK3=>?_
 refine .region ?_
 refine .kf 2 (l3Cmp_fc p q hp hq) hb177 ?_
 refine .e ?_
 refine hK3 _ ?_
 refine .c (t:=decide (0 < cmV p q)) (fun h10=>?_) (fun h10=>?_)
 ·try simp only[dc]at h10
  have hsw : cmV p q > 0:=by simpa using h10
  refine .r ?_
  refine hK2 _ ?_
  refine .sq fun K4 hK4=>?_
  cases q1 : decide (cmV q r ≤ 0)
  ·refine .region ?_
   refine .kf 2 (l3Cmp_fc q r hq hr) hb177 ?_ (by simp (disch:=first|exact zd|fail) [List.take_succ_cons,List.take_zero,q1]; rfl) (ha:=by simp (disch:=first|exact zd|fail) [idf_Wd',q1])
   refine .e ?_ (by simp (disch:=first|exact zd|fail) [q1]; rfl)
   refine hK4 _ ?_
   refine .ret ?_
   exact hK _ _ _ _ trivial ((Fin.m).cast (by rw [btS,if_pos hsw,q1]; rfl))
  ·cases q2 : decide (cmV r p ≤ 0)
   ·refine .region ?_
    refine .kf 2 (l3Cmp_fc q r hq hr) hb177 ?_ (by simp (disch:=first|exact zd|fail) [List.take_succ_cons,List.take_zero,q1,q2]; rfl) (ha:=by simp (disch:=first|exact zd|fail) [idf_Wd',q1,q2])
    refine .kf 4 (l3Cmp_fc r p hr hp) hb177 ?_ (by simp (disch:=first|exact zd|fail) [List.take_succ_cons,List.take_zero,q1,q2]; rfl) (ha:=by simp (disch:=first|exact zd|fail) [idf_Wd',q1,q2])
    refine .e ?_ (by simp (disch:=first|exact zd|fail) [q1,q2]; rfl)
    refine hK4 _ ?_
    refine .ret ?_
    exact hK _ _ _ _ trivial ((Fin.m).cast (by rw [btS,if_pos hsw,q1,q2]; rfl))
   ·refine .region ?_
    refine .kf 2 (l3Cmp_fc q r hq hr) hb177 ?_ (by simp (disch:=first|exact zd|fail) [List.take_succ_cons,List.take_zero,q1,q2]; rfl) (ha:=by simp (disch:=first|exact zd|fail) [idf_Wd',q1,q2])
    refine .kf 4 (l3Cmp_fc r p hr hp) hb177 ?_ (by simp (disch:=first|exact zd|fail) [List.take_succ_cons,List.take_zero,q1,q2]; rfl) (ha:=by simp (disch:=first|exact zd|fail) [idf_Wd',q1,q2])
    refine .kf 6 (l3Orient_fc q p r hq hp hr) hb113 ?_ (by simp (disch:=first|exact zd|fail) [List.take_succ_cons,List.take_zero,q1,q2]; rfl) (ha:=by simp (disch:=first|exact zd|fail) [idf_Wd',q1,q2])
    refine .e ?_ (by simp (disch:=first|exact zd|fail) [q1,q2]; rfl)
    refine hK4 _ ?_
    refine .ret ?_
    exact hK _ _ _ _ trivial ((Fin.mk (r:=.bool (sg3 (det q p r) == 0)) (by simp [aRes,aResL,aRes1])).cast (by rw [btS,if_pos hsw,q1,q2]; simp [beqd]))
 ·try simp only[dc]at h10
  have hsw : ¬ cmV p q > 0:=by simpa using h10
  refine .skip ?_
  refine hK2 _ ?_
  refine .sq fun K5 hK5=>?_
  cases q1 : decide (cmV p r ≤ 0)
  ·refine .region ?_
   refine .kf 2 (l3Cmp_fc p r hp hr) hb177 ?_ (by simp (disch:=first|exact zd|fail) [List.take_succ_cons,List.take_zero,q1]; rfl) (ha:=by simp (disch:=first|exact zd|fail) [idf_Wd',q1])
   refine .e ?_ (by simp (disch:=first|exact zd|fail) [q1]; rfl)
   refine hK5 _ ?_
   refine .ret ?_
   exact hK _ _ _ _ trivial ((Fin.m).cast (by rw [btS,if_neg hsw,q1]; rfl))
  ·cases q2 : decide (cmV r q ≤ 0)
   ·refine .region ?_
    refine .kf 2 (l3Cmp_fc p r hp hr) hb177 ?_ (by simp (disch:=first|exact zd|fail) [List.take_succ_cons,List.take_zero,q1,q2]; rfl) (ha:=by simp (disch:=first|exact zd|fail) [idf_Wd',q1,q2])
    refine .kf 4 (l3Cmp_fc r q hr hq) hb177 ?_ (by simp (disch:=first|exact zd|fail) [List.take_succ_cons,List.take_zero,q1,q2]; rfl) (ha:=by simp (disch:=first|exact zd|fail) [idf_Wd',q1,q2])
    refine .e ?_ (by simp (disch:=first|exact zd|fail) [q1,q2]; rfl)
    refine hK5 _ ?_
    refine .ret ?_
    exact hK _ _ _ _ trivial ((Fin.m).cast (by rw [btS,if_neg hsw,q1,q2]; rfl))
   ·refine .region ?_
    refine .kf 2 (l3Cmp_fc p r hp hr) hb177 ?_ (by simp (disch:=first|exact zd|fail) [List.take_succ_cons,List.take_zero,q1,q2]; rfl) (ha:=by simp (disch:=first|exact zd|fail) [idf_Wd',q1,q2])
    refine .kf 4 (l3Cmp_fc r q hr hq) hb177 ?_ (by simp (disch:=first|exact zd|fail) [List.take_succ_cons,List.take_zero,q1,q2]; rfl) (ha:=by simp (disch:=first|exact zd|fail) [idf_Wd',q1,q2])
    refine .kf 6 (l3Orient_fc p q r hp hq hr) hb113 ?_ (by simp (disch:=first|exact zd|fail) [List.take_succ_cons,List.take_zero,q1,q2]; rfl) (ha:=by simp (disch:=first|exact zd|fail) [idf_Wd',q1,q2])
    refine .e ?_ (by simp (disch:=first|exact zd|fail) [q1,q2]; rfl)
    refine hK5 _ ?_
    refine .ret ?_
    exact hK _ _ _ _ trivial ((Fin.mk (r:=.bool (sg3 (det p q r) == 0)) (by simp [aRes,aResL,aRes1])).cast (by rw [btS,if_neg hsw,q1,q2]; simp [beqd]))
end

end Go.Proofs.YtjbbbkfdcegfmaaGreat

/- Walks: fractions of the program. -/
namespace Go.Proofs.YtjbbbkfdcegfmaaGreat
open Go Go.RowKit
set_option linter.unusedSimpArgs false
set_option linter.unusedVariables false
set_option maxRecDepth 100000
attribute [local simp] szT4 byT4 agT4 unT4 zoT4 szT52 byT52 agT52 unT52 zoT52 szT188 byT188 agT188 elT188 unT188 zoT188 szT190 byT190 agT190 flT190 fdT190_0 fdT190_1 zoT190 srT188 ixT188 lnT188

section
attribute [local simp] idf_numI cells_numI numI_fold
set_option maxHeartbeats 2000000 in
theorem over_fc {j : Nat} (a b : Int) (hb0 : b ≠ 0) (ha : Bg j a) (hb : Bg j b) (hj : j ≤ 16777216) : FC Tryz.prog 245 [numI a,numI b] (.tup [numI (a / b),numI (a % b)]):=by
 have hD:=divWords_fc a.natAbs b.natAbs (by omega) (by have:=ha.len; rw [mag_abs]; omega) (by have:=hb.len; rw [mag_abs]; omega)
 rw [mag_abs,mag_abs] at hD
 have eu:=eu_lem a b hb0
 generalize hq : ((a.natAbs / b.natAbs : Nat) : Int) = q0 at *
 generalize hr : ((a.natAbs % b.natAbs : Nat) : Int) = r0 at *
 have q0n : 0 ≤ q0:=by rw [← hq]; exact Int.natCast_nonneg _
 have r0n : 0 ≤ r0:=by rw [← hr]; exact Int.natCast_nonneg _
 have bq : Bg j q0:=by
   rw [← hq]; unfold Bg at *; rw [Int.natAbs_natCast]; have:=Nat.div_le_self a.natAbs b.natAbs; omega
 have br : Bg j r0:=by
   rw [← hr]; unfold Bg at *; rw [Int.natAbs_natCast]; have:=Nat.mod_le a.natAbs b.natAbs; omega
 have bqs : ∀ s,Bg j (sg s q0):=fun s=>by cases s <;> simp only [sg_true,sg_false]; exact bq; exact bq.neg
 have brs : ∀ s,Bg j (sg s r0):=fun s=>by cases s <;> simp only [sg_true,sg_false]; exact br; exact br.neg
 have lq:=bq.len
 have lr:=br.len
 have hT1:=made_fc (decide (a < 0) != decide (b < 0)) (mag q0) (by omega) (mag_dig _)
 rw [mag_val,Int.natAbs_of_nonneg q0n] at hT1
 have hT2:=made_fc (decide (a < 0)) (mag r0) (by omega) (mag_dig _)
 rw [mag_val,Int.natAbs_of_nonneg r0n] at hT2
 obtain ⟨S,hS⟩ : ∃ S,(decide (a < 0) != decide (b < 0)) = S:=⟨_,rfl⟩
 have hS2 : (decide (a < 0) == decide (b < 0)) = !S:=by rw [← hS]; cases decide (a < 0) <;> cases decide (b < 0) <;> rfl
 rw [hS] at eu hT1
 refine .b Tryz.func245 45 (fun nx K hK=>?_)
 refine .q ?_
 refine .sq fun K2 hK2=>?_
 refine .region ?_
 refine .kf 4 hD hb180 ?_
 refine .e ?_
 refine hK2 _ ?_
 refine .sq fun K3 hK3=>?_
 refine .old fun hold=>?_
 refine .d 13 ?_
 refine .k 6 (fun fs4 hfs4=>?_) (by simp (disch:=first|exact zd|fail) [List.take_succ_cons,List.take_zero,hS2]; rfl)
 refine .f hT1 hb183 ?_ (ha:=by simp (disch:=first|exact zd|fail) [idf_Wd',hS2])
 refine DP.runF1q (by simp (disch:=first|exact zd|fail) [hS2]; rfl) fun fq5 hfq5=>?_
 simp [qids,asksB,Op.operands,topId] at hfq5
 simp only [updo]
 refine DP.runF1q (by simp (disch:=first|exact zd|fail) [hS2]; rfl) fun fq6 hfq6=>?_
 simp [qids,asksB,Op.operands,topId] at hfq6
 simp only [updo]
 refine DP.runF1q (by simp (disch:=first|exact zd|fail) [hS2]; rfl) fun fq7 hfq7=>?_
 simp [qids,asksB,Op.operands,topId] at hfq7
 simp only [updo]
 refine .f hT2 hb183 ?_ (ha:=by simp (disch:=first|exact zd|fail) [idf_Wd',hS2])
 refine .k 2 (fun fs8 hfs8=>?_) (by simp (disch:=first|exact zd|fail) [List.take_succ_cons,List.take_zero,hS2]; rfl)
 refine DQ.sto1 (m:=13) [7,8,9] _ (by simp (disch:=first|exact zd|fail) [hS2]; rfl) rfl (by simp only[ln,hfs4,hfs8];omega) (by kernel_rfl) (by intro k f hk hex; simp only [List.mem_cons,List.not_mem_nil,or_false] at hex; rcases hex with rfl | rfl | rfl <;> (simp [List.getElem?_append,hfs4,hfs8] at hk; subst hk; refine ⟨?_,by first | omega | (simp; done) | (simp; omega)⟩; simp [qids,asksB,Op.operands,Call.operands,topId,numS,numI,Wd,hfq5,hfq6,hfq7]; try omega)) ?_
 try simp only []
 refine DQ.sto1 (m:=13) [] _ (by simp (disch:=first|exact zd|fail) [hS2]; rfl) rfl (by simp only[ln,hfs4,hfs8];omega) (by kernel_rfl) (by intro k f hk hex; simp only [List.not_mem_nil] at hex) ?_
 try simp only []
 refine hK3 _ ?_
 refine .sq fun K9 hK9=>?_
 refine .q ?_
 refine .c (t:=decide (sg (decide (a < 0)) r0 < 0)) (fun h30=>?_) (fun h30=>?_)
 ·try simp only[dc]at h30
  refine .sq fun K11 hK11=>?_
  refine .d 4 ?_
  refine .k 2 (fun fs12 hfs12=>?_)
  refine .f (abs_fc b) hb265 ?_
  refine .f (plus_fc (brs (decide (a < 0))) hb.abs (by omega) (by omega)) hb198 ?_
  refine .r 4 (by simp only[ln,hfs12];omega) ?_
  refine hK11 _ ?_
  refine .q ?_
  refine .c (t:=decide (b < 0)) (fun h36=>?_) (fun h36=>?_)
  ·try simp only[dc]at h36
   have e:=eu.2.1 h30 h36
   refine .d 3 ?_
   refine .k 1 (fun fs14 hfs14=>?_)
   refine .f (whole_fc 1 (by omega) (by omega)) hb143 ?_
   refine .f (plus_fc (bqs S) (Bg.i64 (n:=1) (by omega) (by omega)) (by omega) (by omega)) hb198 ?_
   refine .r 3 (by simp only[ln,hfs14];omega) ?_
   refine hK9 _ ?_
   refine .sq fun K15 hK15=>?_
   refine .old fun hold=>?_
   refine .d 2 ?_
   refine .k 1 (fun fs16 hfs16=>?_)
   refine DP.runF1q (by simp (disch:=first|exact zd|fail); rfl) fun fq17 hfq17=>?_
   simp [qids,asksB,Op.operands,topId] at hfq17
   simp only [updo]
   refine DQ.sto1 (m:=2) [1] _ (by simp (disch:=first|exact zd|fail); rfl) rfl (by simp only[ln,hfs16];omega) (by kernel_rfl) (by intro k f hk hex; simp only [List.mem_cons,List.not_mem_nil,or_false] at hex; rcases hex with rfl <;> (simp [List.getElem?_append,hfs16] at hk; subst hk; refine ⟨?_,by first | omega | (simp; done) | (simp; omega)⟩; simp [qids,asksB,Op.operands,Call.operands,topId,numS,numI,Wd,hfq17]; try omega)) ?_
   try simp only []
   refine DQ.sto1 (m:=2) [] _ (by simp (disch:=first|exact zd|fail); rfl) rfl (by simp only[ln,hfs16];omega) (by kernel_rfl) (by intro k f hk hex; simp only [List.not_mem_nil] at hex) ?_
   try simp only []
   refine hK15 _ ?_
   refine .ret ?_
   exact hK _ _ _ _ trivial ((Fin.m).cast (by rw [← e.1,← e.2,show ((b.natAbs : Nat) : Int) = -b by omega,← Int.sub_eq_add_neg]))
  ·try simp only[dc]at h36
   have e:=eu.2.2 h30 h36
   refine .d 3 ?_
   refine .k 1 (fun fs18 hfs18=>?_)
   refine .f (whole_fc 1 (by omega) (by omega)) hb143 ?_
   refine .f (less_fc (bqs S) (Bg.i64 (n:=1) (by omega) (by omega)) (by omega) (by omega)) hb182 ?_
   refine .r 3 (by simp only[ln,hfs18];omega) ?_
   refine hK9 _ ?_
   refine .sq fun K19 hK19=>?_
   refine .old fun hold=>?_
   refine .d 2 ?_
   refine .k 1 (fun fs20 hfs20=>?_)
   refine DP.runF1q (by simp (disch:=first|exact zd|fail); rfl) fun fq21 hfq21=>?_
   simp [qids,asksB,Op.operands,topId] at hfq21
   simp only [updo]
   refine DQ.sto1 (m:=2) [1] _ (by simp (disch:=first|exact zd|fail); rfl) rfl (by simp only[ln,hfs20];omega) (by kernel_rfl) (by intro k f hk hex; simp only [List.mem_cons,List.not_mem_nil,or_false] at hex; rcases hex with rfl <;> (simp [List.getElem?_append,hfs20] at hk; subst hk; refine ⟨?_,by first | omega | (simp; done) | (simp; omega)⟩; simp [qids,asksB,Op.operands,Call.operands,topId,numS,numI,Wd,hfq21]; try omega)) ?_
   try simp only []
   refine DQ.sto1 (m:=2) [] _ (by simp (disch:=first|exact zd|fail); rfl) rfl (by simp only[ln,hfs20];omega) (by kernel_rfl) (by intro k f hk hex; simp only [List.not_mem_nil] at hex) ?_
   try simp only []
   refine hK19 _ ?_
   refine .ret ?_
   exact hK _ _ _ _ trivial ((Fin.m).cast (by rw [← e.1,← e.2,show ((b.natAbs : Nat) : Int) = b by omega]))
 ·try simp only[dc]at h30
  have e:=eu.1 h30
  refine .skip ?_
  refine hK9 _ ?_
  refine .sq fun K22 hK22=>?_
  refine .old fun hold=>?_
  refine .d 2 ?_
  refine .k 1 (fun fs23 hfs23=>?_)
  refine DP.runF1q (by simp (disch:=first|exact zd|fail); rfl) fun fq24 hfq24=>?_
  simp [qids,asksB,Op.operands,topId] at hfq24
  simp only [updo]
  refine DQ.sto1 (m:=2) [1] _ (by simp (disch:=first|exact zd|fail); rfl) rfl (by simp only[ln,hfs23];omega) (by kernel_rfl) (by intro k f hk hex; simp only [List.mem_cons,List.not_mem_nil,or_false] at hex; rcases hex with rfl <;> (simp [List.getElem?_append,hfs23] at hk; subst hk; refine ⟨?_,by first | omega | (simp; done) | (simp; omega)⟩; simp [qids,asksB,Op.operands,Call.operands,topId,numS,numI,Wd,hfq24]; try omega)) ?_
  try simp only []
  refine DQ.sto1 (m:=2) [] _ (by simp (disch:=first|exact zd|fail); rfl) rfl (by simp only[ln,hfs23];omega) (by kernel_rfl) (by intro k f hk hex; simp only [List.not_mem_nil] at hex) ?_
  try simp only []
  refine hK22 _ ?_
  refine .ret ?_
  exact hK _ _ _ _ trivial ((Fin.m).cast (by rw [e.1,e.2]))
end

end Go.Proofs.YtjbbbkfdcegfmaaGreat

/- Walks: spots and segments. -/
namespace Go.Proofs.YtjbbbkfdcegfmaaGreat
open Go Go.RowKit
set_option linter.unusedSimpArgs false
set_option linter.unusedVariables false
set_option maxRecDepth 100000
attribute [local simp] szT2 byT2 agT2 unT2 zoT2 szT3 byT3 agT3 unT3 zoT3 szT60 byT60 agT60 flT60 fdT60_0 fdT60_1 fdT60_2 fdT60_3 zoT60 szT62 byT62 agT62 flT62 fdT62_0 fdT62_1 fdT62_2 zoT62 szT83 byT83 agT83 flT83 fdT83_0 fdT83_1 zoT83 szT85 byT85 agT85 flT85 fdT85_0 fdT85_1 zoT85 szT87 byT87 agT87 flT87 fdT87_0 fdT87_1 zoT87 szT89 byT89 agT89 flT89 fdT89_0 fdT89_1 zoT89

theorem eqW2 (p q : Sp) : eqW Tryz.prog 8 83 [.int .i64 p.x,.int .i64 p.y] [.int .i64 q.x,.int .i64 q.y] = some (decide (p = q)):=by
  obtain ⟨a,b⟩:=p
  obtain ⟨a',b'⟩:=q
  have hs : Tryz.prog.stoodInHeld 83 = false:=by kernel_rfl
  have hz : szOf Tryz.prog 2 = some 1:=by kernel_rfl
  have ha : aggT Tryz.prog 2 = some false:=by kernel_rfl
  have e1 : ∀ (n : Nat) (x y : Int),eqW Tryz.prog (n + 1) 2 [.int .i64 x] [.int .i64 y] = some (x == y):=fun n x y=>by
    unfold eqW
    simp only [Tryz.underlying2]
    first | rfl | simp [eqF]
  unfold eqW
  simp only [Tryz.underlying83,hs]
  simp [eqF,hz,ha,e1]
  rw [Bool.eq_iff_iff]
  simp
theorem lsS_dec (p q : Sp) : decide (cmS p q < 0) = lsS p q:=by rw [Bool.eq_iff_iff,decide_eq_true_eq]; exact cmS_neg
theorem wdZ_l {n : Int} (hf : fits n = true) : wdZ n = .agg (W4z n).l:=by
  have e:=wdT_l n
  unfold wdT at e
  rw [if_pos hf] at e; exact e
theorem wideOf4_fc (n : Int) (h1 : -9223372036854775808 ≤ n) (h2 : n ≤ 9223372036854775807) (hf : fits n = true) : FC Tryz.prog 194 [.int .i64 n] (.agg [.int .u64 (W4z n).a,.int .u64 (W4z n).b,.int .u64 (W4z n).c,.int .u64 (W4z n).d]):=by
  have h:=wideOf_fc n h1 h2
  rw [wdZ_l hf] at h; exact h
theorem inM_fits {x : Int} (h : inM x = true) : fits x = true:=by
  have:=inM_b h; unfold fits; simp; omega
theorem sm1 {x y : Int} (hx : inM x = true) (hy : inM y = true) : sm x y 1 = true:=by
  have:=inM_b hx; have:=inM_b hy
  have e : (2 : Nat) ^ 80 = 1208925819614629174706176:=by decide
  simp only [sm,Bool.and_eq_true,decide_eq_true_eq,bitLen_le,e]; omega

theorem within_fc (n a b : Int) : FC Tryz.prog 62 [.int .i64 n,.int .i64 a,.int .i64 b] (.bool (decide (a ≤ n) && decide (n ≤ b))):=by
 refine .b Tryz.func62 15 (fun nx K hK=>?_)
 refine .q ?_
 refine .sq fun K2 hK2=>?_
 cases h : decide (a ≤ n)
 ·refine .r ?_ (by simp (disch:=first|exact zd|fail) [h]; rfl)
  refine hK2 _ ?_
  refine .ret ?_
  exact hK _ _ _ _ trivial ((Fin.m).cast (by rw [h]; rfl))
 ·refine .r ?_ (by simp (disch:=first|exact zd|fail) [h]; rfl)
  refine hK2 _ ?_
  refine .ret ?_
  exact hK _ _ _ _ trivial ((Fin.m).cast (by rw [h]; rfl))
theorem withinM_fc (n : Int) : FC Tryz.prog 62 [.int .i64 n,.int .i64 (-1000000),.int .i64 1000000] (.bool (inM n)):=within_fc n (-1000000) 1000000
section
attribute [local simp] Sp.av Sp.cells Sg.av Sg.cells
theorem spotOkI_fc (p : Sp) : FC Tryz.prog 192 [p.av] (.bool p.good):=by
 refine .b Tryz.func192 11 (fun nx K hK=>?_) (hi:=by simp [idfL,idf,Sp.av,Sp.cells,Sg.av,Sg.cells])
 refine .q ?_
 refine .sq fun K2 hK2=>?_
 cases hx : inM p.x
 ·refine .region ?_
  refine .kf 2 (withinM_fc p.x) hb62 ?_ (by simp (disch:=first|exact zd|fail) [List.take_succ_cons,List.take_zero,hx]; rfl) (ha:=by simp (disch:=first|exact zd|fail) [idf_Wd',hx])
  refine .e ?_ (by simp (disch:=first|exact zd|fail) [hx]; rfl)
  refine hK2 _ ?_
  refine .ret ?_
  exact hK _ _ _ _ trivial ((Fin.m).cast (by unfold Sp.good; rw [hx]; rfl))
 ·refine .region ?_
  refine .kf 2 (withinM_fc p.x) hb62 ?_ (by simp (disch:=first|exact zd|fail) [List.take_succ_cons,List.take_zero,hx]; rfl) (ha:=by simp (disch:=first|exact zd|fail) [idf_Wd',hx])
  refine .kf 3 (withinM_fc p.y) hb62 ?_ (by simp (disch:=first|exact zd|fail) [List.take_succ_cons,List.take_zero,hx]; rfl) (ha:=by simp (disch:=first|exact zd|fail) [idf_Wd',hx])
  refine .e ?_ (by simp (disch:=first|exact zd|fail) [hx]; rfl)
  refine hK2 _ ?_
  refine .ret ?_
  exact hK _ _ _ _ trivial ((Fin.m).cast (by unfold Sp.good; rw [hx]; rfl))
theorem cmpSpots_fc (p q : Sp) : FC Tryz.prog 193 [p.av,q.av] (.int .i64 (cmS p q)):=by
 refine .b Tryz.func193 29 (fun nx K hK=>?_) (hi:=by simp [idfL,idf,Sp.av,Sp.cells,Sg.av,Sg.cells])
 refine .q ?_
 refine .sq fun K2 hK2=>?_
 refine .block ?_
 refine .q ?_ (by simp (disch:=first|exact zd|fail) [eqW2]; rfl)
 refine .c (t:=decide (p = q)) (fun h5=>?_) (fun h5=>?_)
 ·try simp only[dc]at h5
  refine .q ?_
  refine .ret ?_
  exact hK _ _ _ _ trivial ((Fin.m).cast (by unfold cmS; rw [if_pos h5]))
 ·try simp only[dc]at h5
  have hv : cmS p q = if lsS p q = true then -1 else 1:=by unfold cmS; rw [if_neg h5]
  refine .sq fun K5 hK5=>?_
  by_cases q1 : p.x < q.x
  ·have hl : lsS p q = true:=by simp [lsS,q1]
   have c1 : decide (p.x < q.x) = true:=by simp [q1]
   refine .r ?_ (by simp (disch:=first|exact zd|fail) [c1]; rfl)
   refine hK5 _ ?_
   refine .c (fun h9=>?_) (fun h9=>?_)
   ·try simp only[dc]at h9
    refine .q ?_
    refine .ret ?_
    exact hK _ _ _ _ trivial ((Fin.m).cast (by rw [hv,hl]; rfl))
   ·simp at h9
  ·have c1 : decide (p.x < q.x) = false:=by simp; omega
   by_cases q2 : p.x = q.x
   ·have c2 : (p.x == q.x) = true:=by simp [q2]
    refine .r ?_ (by simp (disch:=first|exact zd|fail) [c1,c2]; rfl)
    refine hK5 _ ?_
    refine .c (t:=decide (p.y < q.y)) (fun h9=>?_) (fun h9=>?_)
    ·try simp only[dc]at h9
     refine .q ?_
     refine .ret ?_
     exact hK _ _ _ _ trivial ((Fin.m).cast (by rw [hv,show lsS p q = true by simp [lsS,q2,h9]]; rfl))
    ·try simp only[dc]at h9
     refine .skip ?_
     refine hK2 _ ?_
     refine .q ?_
     refine .ret ?_
     exact hK _ _ _ _ trivial ((Fin.m).cast (by rw [hv,show lsS p q = false by simp [lsS,q2]; omega]; rfl))
   ·have c2 : (p.x == q.x) = false:=by simp [q2]
    refine .r ?_ (by simp (disch:=first|exact zd|fail) [c1,c2]; rfl)
    refine hK5 _ ?_
    refine .c (fun h9=>?_) (fun h9=>?_)
    ·simp at h9
    ·try simp only[dc]at h9
     refine .skip ?_
     refine hK2 _ ?_
     refine .q ?_
     refine .ret ?_
     exact hK _ _ _ _ trivial ((Fin.m).cast (by rw [hv,show lsS p q = false by simp [lsS,q2]; omega]; rfl))
theorem segOkI_fc (s : Sg) : FC Tryz.prog 153 [s.av] (.bool s.good):=by
 refine .b Tryz.func153 19 (fun nx K hK=>?_) (hi:=by simp [idfL,idf,Sp.av,Sp.cells,Sg.av,Sg.cells])
 refine .q ?_
 refine .sq fun K2 hK2=>?_
 cases ha : s.a.good
 ·refine .region ?_
  refine .kf 2 (spotOkI_fc s.a) hb192 ?_ (by simp (disch:=first|exact zd|fail) [List.take_succ_cons,List.take_zero,ha]; rfl) (ha:=by simp (disch:=first|exact zd|fail) [idf_Wd',ha])
  refine .e ?_ (by simp (disch:=first|exact zd|fail) [ha]; rfl)
  refine hK2 _ ?_
  refine .ret ?_
  exact hK _ _ _ _ trivial ((Fin.m).cast (by unfold Sg.good; rw [ha]; rfl))
 ·cases hb : s.b.good
  ·refine .region ?_
   refine .kf 2 (spotOkI_fc s.a) hb192 ?_ (by simp (disch:=first|exact zd|fail) [List.take_succ_cons,List.take_zero,ha,hb]; rfl) (ha:=by simp (disch:=first|exact zd|fail) [idf_Wd',ha,hb])
   refine .kf 3 (spotOkI_fc s.b) hb192 ?_ (by simp (disch:=first|exact zd|fail) [List.take_succ_cons,List.take_zero,ha,hb]; rfl) (ha:=by simp (disch:=first|exact zd|fail) [idf_Wd',ha,hb])
   refine .e ?_ (by simp (disch:=first|exact zd|fail) [ha,hb]; rfl)
   refine hK2 _ ?_
   refine .ret ?_
   exact hK _ _ _ _ trivial ((Fin.m).cast (by unfold Sg.good; rw [ha,hb]; rfl))
  ·refine .region ?_
   refine .kf 2 (spotOkI_fc s.a) hb192 ?_ (by simp (disch:=first|exact zd|fail) [List.take_succ_cons,List.take_zero,ha,hb,lsS_dec]; rfl) (ha:=by simp (disch:=first|exact zd|fail) [idf_Wd',ha,hb,lsS_dec])
   refine .kf 3 (spotOkI_fc s.b) hb192 ?_ (by simp (disch:=first|exact zd|fail) [List.take_succ_cons,List.take_zero,ha,hb,lsS_dec]; rfl) (ha:=by simp (disch:=first|exact zd|fail) [idf_Wd',ha,hb,lsS_dec])
   refine .kf 6 (cmpSpots_fc s.a s.b) hb193 ?_ (by simp (disch:=first|exact zd|fail) [List.take_succ_cons,List.take_zero,ha,hb,lsS_dec]; rfl) (ha:=by simp (disch:=first|exact zd|fail) [idf_Wd',ha,hb,lsS_dec])
   refine .e ?_ (by simp (disch:=first|exact zd|fail) [ha,hb,lsS_dec]; rfl)
   refine hK2 _ ?_
   refine .ret ?_
   exact hK _ _ _ _ trivial ((Fin.m).cast (by unfold Sg.good; rw [ha,hb]; rfl))
set_option maxHeartbeats 1000000 in
theorem cross_fc (a b c : Sp) (ha : a.good = true) (hb : b.good = true) (hc : c.good = true) : FC Tryz.prog 196 [a.av,b.av,c.av] (.int .i64 (crs a b c)):=by
 have pa:=Sp.b ha
 have pb:=Sp.b hb
 have pc:=Sp.b hc
 have m1:=mul_b (u:=b.x - a.x) (v:=c.y - a.y) (m:=2000000) (n:=2000000) (by omega) (by omega) (by omega) (by omega) (by omega)
 have m2:=mul_b (u:=b.y - a.y) (v:=c.x - a.x) (m:=2000000) (n:=2000000) (by omega) (by omega) (by omega) (by omega) (by omega)
 refine .b Tryz.func196 30 (fun nx K hK=>?_) (hi:=by simp [idfL,idf,Sp.av,Sp.cells,Sg.av,Sg.cells])
 refine .q ?_
 refine .q ?_
 refine .ret ?_
 exact hK _ _ _ _ trivial ((Fin.m).cast (by rfl))
end
theorem signI_fc (n : Int) : FC Tryz.prog 119 [.int .i64 n] (.int .i64 (sg3 n)):=by
 refine .b Tryz.func119 9 (fun nx K hK=>?_)
 refine .q ?_
 refine .sq fun K2 hK2=>?_
 refine .block ?_
 refine .q ?_
 refine .c (t:=decide (n < 0)) (fun h3=>?_) (fun h3=>?_)
 ·try simp only[dc]at h3
  refine .q ?_
  refine .ret ?_
  exact hK _ _ _ _ trivial ((Fin.m).cast (by unfold sg3; rw [if_pos h3]))
 ·try simp only[dc]at h3
  refine .q ?_
  refine .c (t:=decide (0 < n)) (fun h6=>?_) (fun h6=>?_)
  ·try simp only[dc]at h6
   refine .q ?_
   refine .ret ?_
   exact hK _ _ _ _ trivial ((Fin.m).cast (by unfold sg3; rw [if_neg h3,if_pos h6]))
  ·try simp only[dc]at h6
   refine .skip ?_
   refine hK2 _ ?_
   refine .q ?_
   refine .ret ?_
   exact hK _ _ _ _ trivial ((Fin.m).cast (by unfold sg3; rw [if_neg h3,if_neg h6]))
section
attribute [local simp] Sp.av Sp.cells Sg.av Sg.cells
theorem pointOfI_fc (p : Sp) (hp : p.good = true) : FC Tryz.prog 155 [p.av] (.agg [.int .u64 (ptS p).x.a,.int .u64 (ptS p).x.b,.int .u64 (ptS p).x.c,.int .u64 (ptS p).x.d,.int .u64 (ptS p).y.a,.int .u64 (ptS p).y.b,.int .u64 (ptS p).y.c,.int .u64 (ptS p).y.d,.int .u64 (ptS p).w.a,.int .u64 (ptS p).w.b,.int .u64 (ptS p).w.c,.int .u64 (ptS p).w.d]):=by
 have pb:=Sp.b hp
 have hx : inM p.x = true:=by simp [inM]; omega
 have hy : inM p.y = true:=by simp [inM]; omega
 have hs:=sm1 hx hy
 refine .b Tryz.func155 11 (fun nx K hK=>?_) (hi:=by simp [idfL,idf,Sp.av,Sp.cells,Sg.av,Sg.cells])
 refine .q ?_
 refine .sq fun K2 hK2=>?_
 refine .d 8 ?_
 refine .k 2 (fun fs3 hfs3=>?_)
 refine .f (wideOf4_fc p.x (by omega) (by omega) (inM_fits hx)) hb194 ?_
 refine .k 2 (fun fs4 hfs4=>?_)
 refine .f (wideOf4_fc p.y (by omega) (by omega) (inM_fits hy)) hb194 ?_
 refine .f (wideOf4_fc 1 (by omega) (by omega) (by decide)) hb194 ?_
 refine .k 1 (fun fs5 hfs5=>?_)
 refine .r 8 (by simp only[ln,hfs3,hfs4,hfs5];omega) ?_
 refine hK2 _ ?_
 refine .ret ?_
 exact hK _ _ _ _ trivial ((Fin.m).cast (by rw [ptS,pt3,if_pos hs]))
theorem toSpot_fc (p : Sp) : FC Tryz.prog 102 [p.av] (.agg [.int .i64 p.x,.int .i64 p.y]):=by
 refine .b Tryz.func102 11 (fun nx K hK=>?_) (hi:=by simp [idfL,idf,Sp.av,Sp.cells,Sg.av,Sg.cells])
 refine .q ?_
 refine .q ?_
 refine .q ?_
 refine .q ?_
 refine .q ?_
 refine .ret ?_
 exact hK _ _ _ _ trivial (Fin.m)
theorem toSeg_fc (s : Sg) : FC Tryz.prog 60 [s.av] (.agg [.int .i64 s.a.x,.int .i64 s.a.y,.int .i64 s.b.x,.int .i64 s.b.y]):=by
 refine .b Tryz.func60 13 (fun nx K hK=>?_) (hi:=by simp [idfL,idf,Sp.av,Sp.cells,Sg.av,Sg.cells])
 refine .q ?_
 refine .q ?_
 refine .sq fun K3 hK3=>?_
 refine .region ?_
 refine .kf 2 (toSpot_fc s.a) hb102 ?_
 refine .e ?_
 refine hK3 _ ?_
 refine .sq fun K4 hK4=>?_
 refine .region ?_
 refine .kf 2 (toSpot_fc s.b) hb102 ?_
 refine .e ?_
 refine hK4 _ ?_
 refine .q ?_
 refine .ret ?_
 exact hK _ _ _ _ trivial (Fin.m)
end

end Go.Proofs.YtjbbbkfdcegfmaaGreat

/- Walks: where segments meet, by the program. -/
namespace Go.Proofs.YtjbbbkfdcegfmaaGreat
open Go Go.RowKit
set_option linter.unusedSimpArgs false
set_option linter.unusedVariables false
set_option maxRecDepth 100000
attribute [local simp] szT2 byT2 agT2 unT2 zoT2 szT4 byT4 agT4 unT4 zoT4 szT52 byT52 agT52 unT52 zoT52 szT60 byT60 agT60 flT60 fdT60_0 fdT60_1 fdT60_2 fdT60_3 zoT60 szT62 byT62 agT62 flT62 fdT62_0 fdT62_1 fdT62_2 zoT62 szT188 byT188 agT188 elT188 unT188 zoT188 szT190 byT190 agT190 flT190 fdT190_0 fdT190_1 zoT190 szT192 byT192 agT192 flT192 fdT192_0 fdT192_1 fdT192_2 zoT192 szT233 byT233 agT233 elT233 unT233 zoT233 srT188 ixT188 lnT188 srT233

theorem mx_fold (a b : Int) : (if a < b then b else a) = mx a b:=rfl
theorem mn_fold (a b : Int) : (if b < a then b else a) = mn a b:=rfl
theorem max_sm2 (x y w : Int) : decide (80 < (if (if bitLen x.natAbs < bitLen y.natAbs then (bitLen y.natAbs : Int) else (bitLen x.natAbs : Int)) < (bitLen w.natAbs : Int) then (bitLen w.natAbs : Int) else if bitLen x.natAbs < bitLen y.natAbs then (bitLen y.natAbs : Int) else (bitLen x.natAbs : Int))) = !sm x y w:=by
  rw [← max_sm]
  generalize (if (if bitLen x.natAbs < bitLen y.natAbs then (bitLen y.natAbs : Int) else (bitLen x.natAbs : Int)) < (bitLen w.natAbs : Int) then (bitLen w.natAbs : Int) else if bitLen x.natAbs < bitLen y.natAbs then (bitLen y.natAbs : Int) else (bitLen x.natAbs : Int)) = m
  rw [Bool.eq_iff_iff]; simp
theorem gcd3_x (x y w : Int) : gcd3 x y w ∣ x:=Int.dvd_trans (by unfold gcd3; exact Int.ofNat_dvd.2 (Nat.gcd_dvd_left _ _)) (Int.gcd_dvd_left (a:=x) (b:=y))
theorem gcd3_y (x y w : Int) : gcd3 x y w ∣ y:=Int.dvd_trans (by unfold gcd3; exact Int.ofNat_dvd.2 (Nat.gcd_dvd_left _ _)) (Int.gcd_dvd_right (a:=x) (b:=y))
theorem gcd3_w (x y w : Int) : gcd3 x y w ∣ w:=by unfold gcd3; exact Int.dvd_natAbs.1 (Int.ofNat_dvd.2 (Nat.gcd_dvd_right _ _))
theorem div_nrm {x y w z g : Int} (hg : gcd3 x y w = g) (hz : g ∣ z) : z / (if w < 0 then -g else g) = nrm w z / g:=by
  unfold nrm; split
  · rw [Int.ediv_neg,Int.neg_ediv_of_dvd hz]
  · rfl

section
attribute [local simp] idf_numI cells_numI numI_fold spA spC numC
set_option maxHeartbeats 4000000 in
theorem spotPoint_fc {j : Nat} (x y w : Int) (bx : Bg j x) (bY : Bg j y) (bw : Bg j w) (hj : j ≤ 16777216) : FC Tryz.prog 199 [spA x y w] (.tup [.agg [.int .u64 (mkP x y w).x.a,.int .u64 (mkP x y w).x.b,.int .u64 (mkP x y w).x.c,.int .u64 (mkP x y w).x.d,.int .u64 (mkP x y w).y.a,.int .u64 (mkP x y w).y.b,.int .u64 (mkP x y w).y.c,.int .u64 (mkP x y w).y.d,.int .u64 (mkP x y w).w.a,.int .u64 (mkP x y w).w.b,.int .u64 (mkP x y w).w.c,.int .u64 (mkP x y w).w.d],.bool (mkB x y w)]):=by
 obtain ⟨cs,hsf,hse⟩ : ∃ c : Int,FC Tryz.prog 139 [numI w] (.int .i64 c) ∧ (c == 0) = decide (w = 0):=⟨_,sign_fc w,by
   by_cases h : w = 0
   · subst h; rfl
   · have : (if w < 0 then (-1 : Int) else if w > 0 then 1 else 0) ≠ 0:=by split <;> (try split) <;> omega
     rw [beq_eq_false_iff_ne.2 this]; simp [h]⟩
 refine .b Tryz.func199 80 (fun nx K hK=>?_)
 refine .q ?_
 refine .sq fun K2 hK2=>?_
 refine .sq fun K3 hK3=>?_
 refine .region ?_
 refine .kf 2 hsf hb139 ?_
 refine .e ?_
 refine hK3 _ ?_
 refine .c (t:=decide (w = 0)) (fun h15=>?_) (fun h15=>?_) (by simp (disch:=first|exact zd|fail) [hse])
 ·try simp only[dc]at h15
  refine .q ?_
  refine .ret ?_
  exact hK _ _ _ _ trivial ((Fin.m).cast (by unfold mkP mkB; rw [if_pos h15,if_pos h15]; rfl))
 ·try simp only[dc]at h15
  have hw : w ≠ 0:=h15
  have hgp:=gcd3_pos (x:=x) (y:=y) hw
  have hgx:=gcd3_x x y w
  have hgy:=gcd3_y x y w
  have hgw:=gcd3_w x y w
  have eP : mkP x y w = pt3 (nrm w x / gcd3 x y w) (nrm w y / gcd3 x y w) (nrm w w / gcd3 x y w):=by unfold mkP; rw [if_neg hw]
  have eB : mkB x y w = sm (nrm w x / gcd3 x y w) (nrm w y / gcd3 x y w) (nrm w w / gcd3 x y w):=by unfold mkB; rw [if_neg hw]
  have bG : Bg j (gcd3 x y w):=by
    have b1 : Bg j ((Int.gcd x y : Nat) : Int):=Bg.gcd bx.abs bY.abs
    exact Bg.gcd b1 bw.abs
  have hg2 : FC Tryz.prog 141 [.isl [numC x,numC y,numC w]] (numI (gcd3 x y w)):=by
    have h:=gcd_fc (j:=j) [x,y,w] (by intro z hz; simp only [List.mem_cons,List.not_mem_nil,or_false] at hz; rcases hz with rfl | rfl | rfl <;> assumption) (by omega) (by simp)
    rw [gcdL_three] at h; exact h
  generalize hgg : gcd3 x y w = g at *
  have bX:=(bx.nrm (w:=w)).div hgp
  have bYY:=(bY.nrm (w:=w)).div hgp
  have bW:=(bw.nrm (w:=w)).div hgp
  refine .skip ?_
  refine hK2 _ ?_
  refine .sq fun K5 hK5=>?_
  refine .region ?_
  refine .k 7 ?_
  refine AOPS.frz1 23 (nx + 1 + 1) 2 [numC x,numC y,numC w] (.isl [numC x,numC y,numC w]) (by simp [numC]) (by simp [fz,numC]) ?_
  refine .f hg2 hb141 ?_
  refine .e ?_
  refine hK5 _ ?_
  refine .sq fun K6 hK6=>?_
  have J6 : ∀ s : St,(∃ D : Int,D = (if w < 0 then -g else g) ∧ s.env 1 = .ptr nx 0 0 ∧ s.env 2 = .ptr (nx + 1) 0 0 ∧ s.env 4 = .ptr (nx + 1 + 1 + 1) 0 0 ∧ s.env 3 = .bool false ∧ s.heap nx = some (6,[[.bool (decide (x < 0)),Wd .u64 (mag x),.bool (decide (y < 0)),Wd .u64 (mag y),.bool (decide (w < 0)),Wd .u64 (mag w)]]) ∧ s.heap (nx + 1) = some (12,[[.int .u64 0,.int .u64 0,.int .u64 0,.int .u64 0,.int .u64 0,.int .u64 0,.int .u64 0,.int .u64 0,.int .u64 0,.int .u64 0,.int .u64 0,.int .u64 0]]) ∧ s.heap (nx + 1 + 1 + 1) = some (2,[[.bool (decide (D < 0)),Wd .u64 (mag (D))]]) ∧ nx + 1 + 1 + 1 < s.nx ∧ s.nt = 80) → K6 s:=by
   rintro ⟨e,H,mm,nt⟩ ⟨D,hD,h1,h2,h4,h3,hA,hB,hC,hm,rfl⟩
   simp only [] at h1 h2 h4 h3 hA hB hC hm
   have dX:=div_nrm hgg hgx
   have dY:=div_nrm hgg hgy
   have dW:=div_nrm hgg hgw
   rw [← hD] at dX dY dW
   have bD : Bg j D:=by rw [hD]; split; exact bG.neg; exact bG
   have hDn : D ≠ 0:=by rw [hD]; split <;> omega
   have ox:=over_fc x D hDn bx bD hj
   have oy:=over_fc y D hDn bY bD hj
   have ow:=over_fc w D hDn bw bD hj
   rw [dX] at ox
   rw [dY] at oy
   rw [dW] at ow
   generalize nrm w x / g = X at *
   generalize nrm w y / g = Y at *
   generalize nrm w w / g = W at *
   have hms:=max_sm2 X Y W
   have w1:=wide_fc bX (by omega)
   have w2:=wide_fc bYY (by omega)
   have w3:=wide_fc bW (by omega)
   rw [wdT_l] at w1 w2 w3
   unfold W4.l at w1 w2 w3
   clear dX dY dW
   refine hK6 _ ?_
   refine .sq fun K7 hK7=>?_
   refine .region ?_
   refine .kf 3 ox hb245 ?_ (by simp (disch:=first|exact zd|fail) [List.take_succ_cons,List.take_zero,h1,h4,hA,hC]; rfl) (ha:=by simp (disch:=first|exact zd|fail) [idf_Wd',h1,h4,hA,hC])
   refine .e ?_ (by simp (disch:=first|exact zd|fail) [h1,h4,hA,hC]; rfl)
   refine hK7 _ ?_
   refine .sq fun K8 hK8=>?_
   refine .region ?_
   refine .kf 3 oy hb245 ?_ (by simp (disch:=first|exact zd|fail) [List.take_succ_cons,List.take_zero,h1,h4,hA,hC]; rfl) (ha:=by simp (disch:=first|exact zd|fail) [idf_Wd',h1,h4,hA,hC])
   refine .e ?_ (by simp (disch:=first|exact zd|fail) [h1,h4,hA,hC]; rfl)
   refine hK8 _ ?_
   refine .sq fun K9 hK9=>?_
   refine .region ?_
   refine .kf 3 ow hb245 ?_ (by simp (disch:=first|exact zd|fail) [List.take_succ_cons,List.take_zero,h1,h4,hA,hC]; rfl) (ha:=by simp (disch:=first|exact zd|fail) [idf_Wd',h1,h4,hA,hC])
   refine .e ?_ (by simp (disch:=first|exact zd|fail) [h1,h4,hA,hC]; rfl)
   refine hK9 _ ?_
   refine .sq fun K10 hK10=>?_
   refine .sq fun K11 hK11=>?_
   refine .d 8 ?_
   refine .k 1 (fun fs12 hfs12=>?_) (by simp (disch:=first|exact zd|fail) [List.take_succ_cons,List.take_zero,hms]; rfl)
   refine .f (size_fc bX (by omega)) hb140 ?_ (ha:=by simp (disch:=first|exact zd|fail) [idf_Wd',hms])
   refine .k 1 (fun fs13 hfs13=>?_) (by simp (disch:=first|exact zd|fail) [List.take_succ_cons,List.take_zero,hms]; rfl)
   refine .f (size_fc bYY (by omega)) hb140 ?_ (ha:=by simp (disch:=first|exact zd|fail) [idf_Wd',hms])
   refine .k 1 (fun fs14 hfs14=>?_) (by simp (disch:=first|exact zd|fail) [List.take_succ_cons,List.take_zero,hms]; rfl)
   refine .f (size_fc bW (by omega)) hb140 ?_ (ha:=by simp (disch:=first|exact zd|fail) [idf_Wd',hms])
   refine .k 2 (fun fs15 hfs15=>?_) (by simp (disch:=first|exact zd|fail) [List.take_succ_cons,List.take_zero,hms]; rfl)
   refine .r 8 (by simp only[ln,hfs12,hfs13,hfs14,hfs15];omega) ?_ (by simp (disch:=first|exact zd|fail) [hms]; rfl)
   refine hK11 _ ?_
   refine .c (t:=!sm X Y W) (fun h58=>?_) (fun h58=>?_)
   ·try simp only[dc]at h58
    have hb : sm X Y W = false:=by simpa using h58
    refine .q ?_ (by simp (disch:=first|exact zd|fail) [h2,hB]; rfl)
    refine .ret ?_
    exact hK _ _ _ _ trivial ((Fin.mk (by simp (disch:=omega) [aRes,aResL,aRes1,h2]; rfl)).cast (by rw [eP,eB,pt3,hb]; rfl))
   ·try simp only[dc]at h58
    have hb : sm X Y W = true:=by simpa using h58
    refine .skip ?_
    refine hK10 _ ?_
    refine .q ?_
    refine .sq fun K18 hK18=>?_
    refine .region ?_
    refine .kf 1 w1 hb243 ?_
    refine .e ?_
    refine hK18 _ ?_
    refine .sq fun K19 hK19=>?_
    refine .region ?_
    refine .kf 1 w2 hb243 ?_
    refine .e ?_
    refine hK19 _ ?_
    refine .sq fun K20 hK20=>?_
    refine .region ?_
    refine .kf 1 w3 hb243 ?_
    refine .e ?_
    refine hK20 _ ?_
    refine .q ?_ (by simp (disch:=first|exact zd|fail) [h2,hB]; rfl)
    refine .ret ?_
    exact hK _ _ _ _ trivial ((Fin.mk (by simp (disch:=omega) [aRes,aResL,aRes1,h2]; rfl)).cast (by rw [eP,eB,pt3,if_pos hb,hb]))
  refine .q ?_
  refine .c (t:=decide (w < 0)) (fun h27=>?_) (fun h27=>?_)
  ·try simp only[dc]at h27
   refine .region ?_
   refine .kf 1 (minus_fc bG (by omega)) hb241 ?_
   refine .e ?_
   refine J6 _ ?_
   exact ⟨-g,by simp [h27],by simp,by simp,by simp,by simp,by simp (disch:=omega),by simp (disch:=omega),by simp (disch:=omega),by simp,rfl⟩
  ·try simp only[dc]at h27
   refine .skip ?_
   refine J6 _ ?_
   exact ⟨g,by simp [h27],by simp,by simp,by simp,by simp,by simp (disch:=omega),by simp (disch:=omega),by simp (disch:=omega),by simp,rfl⟩
end
section
attribute [local simp] idf_numI cells_numI numI_fold
theorem none_fc  : FC Tryz.prog 195 [] (.tup [.int .i64 0,.agg [.int .u64 (pt0).x.a,.int .u64 (pt0).x.b,.int .u64 (pt0).x.c,.int .u64 (pt0).x.d,.int .u64 (pt0).y.a,.int .u64 (pt0).y.b,.int .u64 (pt0).y.c,.int .u64 (pt0).y.d,.int .u64 (pt0).w.a,.int .u64 (pt0).w.b,.int .u64 (pt0).w.c,.int .u64 (pt0).w.d],.agg [.int .u64 (pt0).x.a,.int .u64 (pt0).x.b,.int .u64 (pt0).x.c,.int .u64 (pt0).x.d,.int .u64 (pt0).y.a,.int .u64 (pt0).y.b,.int .u64 (pt0).y.c,.int .u64 (pt0).y.d,.int .u64 (pt0).w.a,.int .u64 (pt0).w.b,.int .u64 (pt0).w.c,.int .u64 (pt0).w.d]]):=by
 refine .b Tryz.func195 5 (fun nx K hK=>?_)
 refine .q ?_
 refine .q ?_
 refine .ret ?_
 exact hK _ _ _ _ trivial ((Fin.m).cast (by rfl))
end

end Go.Proofs.YtjbbbkfdcegfmaaGreat

/- Walks: where segments meet, by the program (2). -/
namespace Go.Proofs.YtjbbbkfdcegfmaaGreat
open Go Go.RowKit
set_option linter.unusedSimpArgs false
set_option linter.unusedVariables false
set_option maxRecDepth 100000
attribute [local simp] szT2 byT2 agT2 unT2 zoT2 szT3 byT3 agT3 unT3 zoT3 szT4 byT4 agT4 unT4 zoT4 szT60 byT60 agT60 flT60 fdT60_0 fdT60_1 fdT60_2 fdT60_3 zoT60 szT62 byT62 agT62 flT62 fdT62_0 fdT62_1 fdT62_2 zoT62 szT83 byT83 agT83 flT83 fdT83_0 fdT83_1 zoT83 szT85 byT85 agT85 flT85 fdT85_0 fdT85_1 zoT85 szT188 byT188 agT188 elT188 unT188 zoT188 szT190 byT190 agT190 flT190 fdT190_0 fdT190_1 zoT190 szT192 byT192 agT192 flT192 fdT192_0 fdT192_1 fdT192_2 zoT192 srT188

theorem hbNone : hasBody Tryz.prog 195 = true:=by kernel_rfl
theorem mul_sg (a b : Int) : -1 ≤ sg3 a * sg3 b ∧ sg3 a * sg3 b ≤ 1:=by
  have:=sg3_b a; have:=sg3_b b
  have:=mul_b (u:=sg3 a) (v:=sg3 b) (m:=1) (n:=1) (by omega) (by omega) (by omega) (by omega) (by omega)
  omega
theorem lsS_dec2 (p q : Sp) : decide (0 < cmS p q) = lsS q p:=by rw [Bool.eq_iff_iff,decide_eq_true_eq]; exact cmS_pos
theorem cmS_deq (p q : Sp) : (cmS p q == 0) = decide (p = q):=by rw [Bool.eq_iff_iff,beq_iff_eq,decide_eq_true_eq]; exact cmS_zero

section
attribute [local simp] idf_numI cells_numI numI_fold Sp.av Sp.cells Sg.av Sg.cells spA spC
set_option maxHeartbeats 8000000 in
theorem meetI_fc (u v : Sg) (gu : u.good = true) (gv : v.good = true) : FC Tryz.prog 156 [u.av,v.av] (.tup [.int .i64 (meetI u v).1,.agg [.int .u64 ((meetI u v).2.1).x.a,.int .u64 ((meetI u v).2.1).x.b,.int .u64 ((meetI u v).2.1).x.c,.int .u64 ((meetI u v).2.1).x.d,.int .u64 ((meetI u v).2.1).y.a,.int .u64 ((meetI u v).2.1).y.b,.int .u64 ((meetI u v).2.1).y.c,.int .u64 ((meetI u v).2.1).y.d,.int .u64 ((meetI u v).2.1).w.a,.int .u64 ((meetI u v).2.1).w.b,.int .u64 ((meetI u v).2.1).w.c,.int .u64 ((meetI u v).2.1).w.d],.agg [.int .u64 ((meetI u v).2.2).x.a,.int .u64 ((meetI u v).2.2).x.b,.int .u64 ((meetI u v).2.2).x.c,.int .u64 ((meetI u v).2.2).x.d,.int .u64 ((meetI u v).2.2).y.a,.int .u64 ((meetI u v).2.2).y.b,.int .u64 ((meetI u v).2.2).y.c,.int .u64 ((meetI u v).2.2).y.d,.int .u64 ((meetI u v).2.2).w.a,.int .u64 ((meetI u v).2.2).w.b,.int .u64 ((meetI u v).2.2).w.c,.int .u64 ((meetI u v).2.2).w.d]]):=by
 have ua:=good_a gu
 have ub:=good_b gu
 have va:=good_a gv
 have vb:=good_b gv
 have pua:=Sp.b ua
 have pub:=Sp.b ub
 have pva:=Sp.b va
 have pvb:=Sp.b vb
 obtain ⟨A,hA⟩ : ∃ A,crs u.a u.b v.a = A:=⟨_,rfl⟩
 obtain ⟨B,hB⟩ : ∃ B,crs u.a u.b v.b = B:=⟨_,rfl⟩
 obtain ⟨C,hC⟩ : ∃ C,crs v.a v.b u.a = C:=⟨_,rfl⟩
 obtain ⟨D,hD⟩ : ∃ D,crs v.a v.b u.b = D:=⟨_,rfl⟩
 have cA:=cross_fc u.a u.b v.a ua ub va
 have cB:=cross_fc u.a u.b v.b ua ub vb
 have cC:=cross_fc v.a v.b u.a va vb ua
 have cD:=cross_fc v.a v.b u.b va vb ub
 have bA:=crs_b ua ub va
 have bB:=crs_b ua ub vb
 rw [hA] at cA bA
 rw [hB] at cB bB
 rw [hC] at cC
 rw [hD] at cD
 have hnw : noWay u v = (decide (0 < sg3 A * sg3 B) || decide (0 < sg3 C * sg3 D)):=by unfold noWay; rw [hA,hB,hC,hD]
 have hmt : apart u v = true → meetI u v = (0,pt0,pt0):=fun h=>by unfold meetI; rw [if_pos h]
 have hmf : apart u v = false → meetI u v = if A = 0 ∧ B = 0 then linP u v else if noWay u v = true then (0,pt0,pt0) else (1,mkP (wayX u v) (wayY u v) (wayW u v),pt0):=fun h=>by unfold meetI; rw [h,hA,hB]; rfl
 have hap : apart u v = (decide (mn u.b.x v.b.x < mx u.a.x v.a.x) || decide (mn (mx u.a.y u.b.y) (mx v.a.y v.b.y) < mx (mn u.a.y u.b.y) (mn v.a.y v.b.y))):=rfl
 have eW : wayW u v = A - B:=by unfold wayW; rw [hA,hB]
 have eX : wayX u v = v.a.x * (A - B) + A * (v.b.x - v.a.x):=by unfold wayX; rw [eW,hA]
 have eY : wayY u v = v.a.y * (A - B) + A * (v.b.y - v.a.y):=by unfold wayY; rw [eW,hA]
 have sAB:=mul_sg A B
 have sCD:=mul_sg C D
 clear hA hB hC hD
 refine .b Tryz.func156 215 (fun nx K hK=>?_) (hi:=by simp [idfL,idf,Sp.av,Sp.cells,Sg.av,Sg.cells])
 refine .q ?_
 refine .q ?_
 refine .sq fun K3 hK3=>?_
 refine .sq fun K4 hK4=>?_
 cases q1 : decide (mn u.b.x v.b.x < mx u.a.x v.a.x)
 ·refine .r ?_ (by simp (disch:=first|exact zd|fail) [mx_fold,mn_fold,q1]; rfl)
  refine hK4 _ ?_
  refine .c (t:=decide (mn (mx u.a.y u.b.y) (mx v.a.y v.b.y) < mx (mn u.a.y u.b.y) (mn v.a.y v.b.y))) (fun h67=>?_) (fun h67=>?_)
  ·try simp only[dc]at h67
   have hm:=hmt (by rw [hap,decide_eq_true h67]; simp)
   refine .sq fun K5 hK5=>?_
   refine .region ?_
   refine .k 1 ?_
   refine AOPS.fcall (none_fc) rfl rfl (by simp; rfl) hbNone (by simp (disch:=first|exact zd|fail) [idf_Wd']) (by simp (disch:=first|exact zd|fail)) (by simp) ?_
   simp only [puts_some,updo]
   refine .e ?_
   refine hK5 _ ?_
   refine .ret ?_
   exact hK _ _ _ _ trivial ((Fin.m).cast (by rw [hm]; try rfl))
  ·try simp only[dc]at h67
   have hm:=hmf (by rw [hap,q1,decide_eq_false h67]; rfl)
   refine .skip ?_
   refine hK3 _ ?_
   refine .sq fun K6 hK6=>?_
   refine .d 14 ?_
   refine .k 6 (fun fs7 hfs7=>?_)
   refine .f cA hb196 ?_
   refine .k 6 (fun fs8 hfs8=>?_)
   refine .f cB hb196 ?_
   refine .r 14 (by simp only[ln,hfs7,hfs8];omega) ?_
   refine hK6 _ ?_
   refine .sq fun K9 hK9=>?_
   refine .sq fun K10 hK10=>?_
   by_cases hA0 : A = 0
   ·have c1 : (A == 0) = true:=by simp [hA0]
    by_cases hB0 : B = 0
    ·have c2 : (B == 0) = true:=by simp [hB0]
     have hm':=hm
     rw [if_pos ⟨hA0,hB0⟩] at hm'
     refine .r ?_ (by simp (disch:=first|exact zd|fail) [c1,c2]; rfl)
     refine hK10 _ ?_
     refine .c (fun h92=>?_) (fun h92=>?_)
     ·try simp only[dc]at h92
      refine .sq fun K11 hK11=>?_
      refine .old fun hold=>?_
      refine .d 6 ?_
      refine .k 2 (fun fs12 hfs12=>?_)
      refine DP.runF1q (by simp (disch:=first|exact zd|fail); rfl) fun fq13 hfq13=>?_
      simp [qids,asksB,Op.operands,topId] at hfq13
      simp only [updo]
      refine DP.runF1q (by simp (disch:=first|exact zd|fail); rfl) fun fq14 hfq14=>?_
      simp [qids,asksB,Op.operands,topId] at hfq14
      simp only [updo]
      refine .k 2 (fun fs15 hfs15=>?_)
      refine DQ.sto1 (m:=6) [2,3] _ (by simp (disch:=first|exact zd|fail); rfl) rfl (by simp only[ln,hfs12,hfs15];omega) (by kernel_rfl) (by intro k f hk hex; simp only [List.mem_cons,List.not_mem_nil,or_false] at hex; rcases hex with rfl | rfl <;> (simp [List.getElem?_append,hfs12,hfs15] at hk; subst hk; refine ⟨?_,by first | omega | (simp; done) | (simp; omega)⟩; simp [qids,asksB,Op.operands,Call.operands,topId,numS,numI,Wd,hfq13,hfq14]; try omega)) ?_
      try simp only []
      refine DQ.sto1 (m:=6) [] _ (by simp (disch:=first|exact zd|fail); rfl) rfl (by simp only[ln,hfs12,hfs15];omega) (by kernel_rfl) (by intro k f hk hex; simp only [List.not_mem_nil] at hex) ?_
      try simp only []
      refine hK11 _ ?_
      refine .sq fun K16 hK16=>?_
      have J16 : ∀ s : St,(∃ (lo hi : Sp) (ia ib : Nat),lo = lowS u v ∧ hi = u.b ∧ s.env 2 = .ptr nx 0 0 ∧ s.env 3 = .ptr (nx + 1) 0 0 ∧ s.env 5 = .ptr (nx + 1 + 1) 0 0 ∧ s.env 6 = .ptr (nx + 1 + 1 + 1) 0 0 ∧ s.env 7 = .fn 195 [] ∧ s.env 10 = .ptr ia 0 0 ∧ s.env 11 = .ptr ib 0 0 ∧ s.heap nx = some (4,[[.int .i64 u.a.x,.int .i64 u.a.y,.int .i64 u.b.x,.int .i64 u.b.y]]) ∧ s.heap (nx + 1) = some (4,[[.int .i64 v.a.x,.int .i64 v.a.y,.int .i64 v.b.x,.int .i64 v.b.y]]) ∧ s.heap (nx + 1 + 1) = some (12,[[.int .u64 0,.int .u64 0,.int .u64 0,.int .u64 0,.int .u64 0,.int .u64 0,.int .u64 0,.int .u64 0,.int .u64 0,.int .u64 0,.int .u64 0,.int .u64 0]]) ∧ s.heap (nx + 1 + 1 + 1) = some (12,[[.int .u64 0,.int .u64 0,.int .u64 0,.int .u64 0,.int .u64 0,.int .u64 0,.int .u64 0,.int .u64 0,.int .u64 0,.int .u64 0,.int .u64 0,.int .u64 0]]) ∧ s.heap ia = some (2,[[.int .i64 lo.x,.int .i64 lo.y]]) ∧ s.heap ib = some (2,[[.int .i64 hi.x,.int .i64 hi.y]]) ∧ (nx + 1 + 1 + 1) < ia ∧ ia < ib ∧ ib < s.nx ∧ s.nt = 215) → K16 s:=by
       rintro ⟨e,H,mm,nt⟩ ⟨lo,hi,ia,ib,hlo,hhi,g2,g3,g5,g6,g7,g10,g11,hU,hV,hP,hQ,hL,hH,hia,hib,hm,rfl⟩
       simp only [] at g2 g3 g5 g6 g7 g10 g11 hU hV hP hQ hL hH hia hib hm
       rw [hhi] at hH
       clear hhi hi
       refine hK16 _ ?_
       refine .sq fun K17 hK17=>?_
       have J17 : ∀ s : St,(∃ (lo hi : Sp) (ia ib : Nat),lo = lowS u v ∧ hi = highS u v ∧ s.env 2 = .ptr nx 0 0 ∧ s.env 3 = .ptr (nx + 1) 0 0 ∧ s.env 5 = .ptr (nx + 1 + 1) 0 0 ∧ s.env 6 = .ptr (nx + 1 + 1 + 1) 0 0 ∧ s.env 7 = .fn 195 [] ∧ s.env 10 = .ptr ia 0 0 ∧ s.env 11 = .ptr ib 0 0 ∧ s.heap nx = some (4,[[.int .i64 u.a.x,.int .i64 u.a.y,.int .i64 u.b.x,.int .i64 u.b.y]]) ∧ s.heap (nx + 1) = some (4,[[.int .i64 v.a.x,.int .i64 v.a.y,.int .i64 v.b.x,.int .i64 v.b.y]]) ∧ s.heap (nx + 1 + 1) = some (12,[[.int .u64 0,.int .u64 0,.int .u64 0,.int .u64 0,.int .u64 0,.int .u64 0,.int .u64 0,.int .u64 0,.int .u64 0,.int .u64 0,.int .u64 0,.int .u64 0]]) ∧ s.heap (nx + 1 + 1 + 1) = some (12,[[.int .u64 0,.int .u64 0,.int .u64 0,.int .u64 0,.int .u64 0,.int .u64 0,.int .u64 0,.int .u64 0,.int .u64 0,.int .u64 0,.int .u64 0,.int .u64 0]]) ∧ s.heap ia = some (2,[[.int .i64 lo.x,.int .i64 lo.y]]) ∧ s.heap ib = some (2,[[.int .i64 hi.x,.int .i64 hi.y]]) ∧ (nx + 1 + 1 + 1) < ia ∧ ia < ib ∧ ib < s.nx ∧ s.nt = 215) → K17 s:=by
        clear g2 g3 g5 g6 g7 g10 g11 hU hV hP hQ hL hH hia hib hm hlo lo
        rintro ⟨e,H,mm,nt⟩ ⟨lo,hi,ia,ib,hlo,hhi,g2,g3,g5,g6,g7,g10,g11,hU,hV,hP,hQ,hL,hH,hia,hib,hm,rfl⟩
        simp only [] at g2 g3 g5 g6 g7 g10 g11 hU hV hP hQ hL hH hia hib hm
        have gl : lo.good = true:=by rw [hlo]; unfold lowS; split; exact va; exact ua
        have gh : hi.good = true:=by rw [hhi]; unfold highS; split; exact vb; exact ub
        have hli : linP u v = if lsS hi lo = true then (0,pt0,pt0) else if lo = hi then (1,ptS lo,pt0) else (2,ptS lo,ptS hi):=by rw [hlo,hhi]; rfl
        clear hlo hhi
        refine hK17 _ ?_
        refine .sq fun K18 hK18=>?_
        refine .sq fun K19 hK19=>?_
        refine .region ?_
        refine .kf 2 (cmpSpots_fc lo hi) hb193 ?_ (by simp (disch:=first|exact zd|fail) [List.take_succ_cons,List.take_zero,g2,g3,g5,g6,g7,g10,g11,hU,hV,hP,hQ,hL,hH]; rfl) (ha:=by simp (disch:=first|exact zd|fail) [idf_Wd',g2,g3,g5,g6,g7,g10,g11,hU,hV,hP,hQ,hL,hH])
        refine .e ?_ (by simp (disch:=first|exact zd|fail) [g2,g3,g5,g6,g7,g10,g11,hU,hV,hP,hQ,hL,hH]; rfl)
        refine hK19 _ ?_
        refine .block ?_
        refine .q ?_
        refine .c (t:=lsS hi lo) (fun h114=>?_) (fun h114=>?_) (by simp (disch:=first|exact zd|fail) [lsS_dec2])
        ·try simp only[dc]at h114
         refine .sq fun K21 hK21=>?_
         refine .region ?_
         refine .k 1 ?_ (by simp (disch:=first|exact zd|fail) [List.take_succ_cons,List.take_zero,g2,g3,g5,g6,g7,g10,g11,hU,hV,hP,hQ,hL,hH]; rfl)
         refine AOPS.fcall (none_fc) rfl rfl (by simp; rfl) hbNone (by simp (disch:=first|exact zd|fail) [idf_Wd',g2,g3,g5,g6,g7,g10,g11,hU,hV,hP,hQ,hL,hH]) (by simp (disch:=first|exact zd|fail) [g2,g3,g5,g6,g7,g10,g11,hU,hV,hP,hQ,hL,hH]) (by simp) ?_
         simp only [puts_some,updo]
         refine .e ?_ (by simp (disch:=first|exact zd|fail) [g2,g3,g5,g6,g7,g10,g11,hU,hV,hP,hQ,hL,hH]; rfl)
         refine hK21 _ ?_
         refine .ret ?_
         exact hK _ _ _ _ trivial ((Fin.mk (by simp (disch:=omega) [aRes,aResL,aRes1,g5,g6]; rfl)).cast (by rw [hm',hli,if_pos h114]; try rfl))
        ·try simp only[dc]at h114
         refine .q ?_
         refine .c (t:=decide (lo = hi)) (fun h122=>?_) (fun h122=>?_) (by simp (disch:=first|exact zd|fail) [cmS_deq])
         ·try simp only[dc]at h122
          refine .sq fun K23 hK23=>?_
          refine .region ?_
          refine .kf 1 (pointOfI_fc lo gl) hb155 ?_ (by simp (disch:=first|exact zd|fail) [List.take_succ_cons,List.take_zero,g2,g3,g5,g6,g7,g10,g11,hU,hV,hP,hQ,hL,hH]; rfl) (ha:=by simp (disch:=first|exact zd|fail) [idf_Wd',g2,g3,g5,g6,g7,g10,g11,hU,hV,hP,hQ,hL,hH])
          refine .e ?_ (by simp (disch:=first|exact zd|fail) [g2,g3,g5,g6,g7,g10,g11,hU,hV,hP,hQ,hL,hH]; rfl)
          refine hK23 _ ?_
          refine .ret ?_
          exact hK _ _ _ _ trivial ((Fin.mk (by simp (disch:=omega) [aRes,aResL,aRes1,g5,g6]; rfl)).cast (by rw [hm',hli,if_neg (by rw [h114]; simp),if_pos h122]; try rfl))
         ·try simp only[dc]at h122
          refine .skip ?_
          refine hK18 _ ?_
          refine .sq fun K24 hK24=>?_
          refine .old fun hold=>?_
          refine .d 4 ?_
          refine .k 1 (fun fs25 hfs25=>?_) (by simp (disch:=first|exact zd|fail) [List.take_succ_cons,List.take_zero,g2,g3,g5,g6,g7,g10,g11,hU,hV,hP,hQ,hL,hH]; rfl)
          refine .f (pointOfI_fc lo gl) hb155 ?_ (ha:=by simp (disch:=first|exact zd|fail) [idf_Wd',g2,g3,g5,g6,g7,g10,g11,hU,hV,hP,hQ,hL,hH])
          refine DP.runF1q (by simp (disch:=first|exact zd|fail) [g2,g3,g5,g6,g7,g10,g11,hU,hV,hP,hQ,hL,hH]; rfl) fun fq26 hfq26=>?_
          simp [qids,asksB,Op.operands,topId] at hfq26
          simp only [updo]
          refine .f (pointOfI_fc hi gh) hb155 ?_ (ha:=by simp (disch:=first|exact zd|fail) [idf_Wd',g2,g3,g5,g6,g7,g10,g11,hU,hV,hP,hQ,hL,hH])
          refine DQ.asg1 _ rfl rfl ?_
          simp only [updo]
          refine DQ.sto1 (m:=4) [2,3] _ (by simp (disch:=first|exact zd|fail) [g2,g3,g5,g6,g7,g10,g11,hU,hV,hP,hQ,hL,hH]; rfl) rfl (by simp only[ln,hfs25];omega) (by kernel_rfl) (by intro k f hk hex; simp only [List.mem_cons,List.not_mem_nil,or_false] at hex; rcases hex with rfl | rfl <;> (simp [List.getElem?_append,hfs25] at hk; subst hk; refine ⟨?_,by first | omega | (simp; done) | (simp; omega)⟩; simp [qids,asksB,Op.operands,Call.operands,topId,numS,numI,Wd,hfq26,g2,g3,g5,g6,g7,g10,g11]; try omega)) ?_
          try simp only []
          refine DQ.sto1 (m:=4) [] _ (by simp (disch:=first|exact zd|fail) [g2,g3,g5,g6,g7,g10,g11,hU,hV,hP,hQ,hL,hH]; rfl) rfl (by simp only[ln,hfs25];omega) (by kernel_rfl) (by intro k f hk hex; simp only [List.not_mem_nil] at hex) ?_
          try simp only []
          refine hK24 _ ?_
          refine .ret ?_
          exact hK _ _ _ _ trivial ((Fin.mk (by simp (disch:=omega) [aRes,aResL,aRes1,g5,g6]; rfl)).cast (by rw [hm',hli,if_neg (by rw [h114]; simp),if_neg h122]; try rfl))
       refine .sq fun K27 hK27=>?_
       refine .region ?_
       refine .kf 3 (cmpSpots_fc v.b u.b) hb193 ?_ (by simp (disch:=first|exact zd|fail) [List.take_succ_cons,List.take_zero,g2,g3,g5,g6,g7,g10,g11,hU,hV,hP,hQ,hL,hH]; rfl) (ha:=by simp (disch:=first|exact zd|fail) [idf_Wd',g2,g3,g5,g6,g7,g10,g11,hU,hV,hP,hQ,hL,hH])
       refine .e ?_ (by simp (disch:=first|exact zd|fail) [g2,g3,g5,g6,g7,g10,g11,hU,hV,hP,hQ,hL,hH]; rfl)
       refine hK27 _ ?_
       refine .c (t:=lsS v.b u.b) (fun h108=>?_) (fun h108=>?_) (by simp (disch:=first|exact zd|fail) [lsS_dec])
       ·try simp only[dc]at h108
        refine .r ?_ (by simp (disch:=first|exact zd|fail) [g2,g3,g5,g6,g7,g10,g11,hU,hV,hP,hQ,hL,hH]; rfl)
        refine J17 _ ?_
        exact ⟨lo,v.b,ia,ib,hlo,by unfold highS; rw [if_pos h108],by first | (simp; done) | (simp [g2,g3,g5,g6,g7,g10,g11]; done),by first | (simp; done) | (simp [g2,g3,g5,g6,g7,g10,g11]; done),by first | (simp; done) | (simp [g2,g3,g5,g6,g7,g10,g11]; done),by first | (simp; done) | (simp [g2,g3,g5,g6,g7,g10,g11]; done),by first | (simp; done) | (simp [g2,g3,g5,g6,g7,g10,g11]; done),by first | (simp; done) | (simp [g2,g3,g5,g6,g7,g10,g11]; done),by first | (simp; done) | (simp [g2,g3,g5,g6,g7,g10,g11]; done),by first | (simp (disch:=omega); done) | (simp (disch:=omega) [hU,hV,hP,hQ,hL,hH]; done),by first | (simp (disch:=omega); done) | (simp (disch:=omega) [hU,hV,hP,hQ,hL,hH]; done),by first | (simp (disch:=omega); done) | (simp (disch:=omega) [hU,hV,hP,hQ,hL,hH]; done),by first | (simp (disch:=omega); done) | (simp (disch:=omega) [hU,hV,hP,hQ,hL,hH]; done),by first | (simp (disch:=omega); done) | (simp (disch:=omega) [hU,hV,hP,hQ,hL,hH]; done),by first | (simp (disch:=omega); done) | (simp (disch:=omega) [hU,hV,hP,hQ,hL,hH]; done),by omega,by omega,by first | omega | (simp; done) | (simp; omega),rfl⟩
       ·try simp only[dc]at h108
        refine .skip ?_
        refine J17 _ ?_
        exact ⟨lo,u.b,ia,ib,hlo,by unfold highS; rw [h108]; rfl,by first | (simp; done) | (simp [g2,g3,g5,g6,g7,g10,g11]; done),by first | (simp; done) | (simp [g2,g3,g5,g6,g7,g10,g11]; done),by first | (simp; done) | (simp [g2,g3,g5,g6,g7,g10,g11]; done),by first | (simp; done) | (simp [g2,g3,g5,g6,g7,g10,g11]; done),by first | (simp; done) | (simp [g2,g3,g5,g6,g7,g10,g11]; done),by first | (simp; done) | (simp [g2,g3,g5,g6,g7,g10,g11]; done),by first | (simp; done) | (simp [g2,g3,g5,g6,g7,g10,g11]; done),by first | (simp (disch:=omega); done) | (simp (disch:=omega) [hU,hV,hP,hQ,hL,hH]; done),by first | (simp (disch:=omega); done) | (simp (disch:=omega) [hU,hV,hP,hQ,hL,hH]; done),by first | (simp (disch:=omega); done) | (simp (disch:=omega) [hU,hV,hP,hQ,hL,hH]; done),by first | (simp (disch:=omega); done) | (simp (disch:=omega) [hU,hV,hP,hQ,hL,hH]; done),by first | (simp (disch:=omega); done) | (simp (disch:=omega) [hU,hV,hP,hQ,hL,hH]; done),by first | (simp (disch:=omega); done) | (simp (disch:=omega) [hU,hV,hP,hQ,hL,hH]; done),by omega,by omega,by first | omega | (simp; done) | (simp; omega),rfl⟩
      refine .sq fun K28 hK28=>?_
      refine .region ?_
      refine .kf 3 (cmpSpots_fc v.a u.a) hb193 ?_
      refine .e ?_
      refine hK28 _ ?_
      refine .c (t:=lsS u.a v.a) (fun h101=>?_) (fun h101=>?_) (by simp (disch:=first|exact zd|fail) [lsS_dec2])
      ·try simp only[dc]at h101
       refine .r ?_
       refine J16 _ ?_
       exact ⟨v.a,u.b,(nx + 1 + 1 + 1 + 1) + 16 + 4,(nx + 1 + 1 + 1 + 1) + 16 + 5,by unfold lowS; rw [if_pos h101],rfl,by simp,by simp,by simp,by simp,by simp,by simp,by simp,by simp (disch:=omega),by simp (disch:=omega),by simp (disch:=omega),by simp (disch:=omega),by simp (disch:=omega),by simp (disch:=omega),by omega,by omega,by first | omega | (simp; done) | (simp; omega),rfl⟩
      ·try simp only[dc]at h101
       refine .skip ?_
       refine J16 _ ?_
       exact ⟨u.a,u.b,(nx + 1 + 1 + 1 + 1) + 16 + 4,(nx + 1 + 1 + 1 + 1) + 16 + 5,by unfold lowS; rw [h101]; rfl,rfl,by simp,by simp,by simp,by simp,by simp,by simp,by simp,by simp (disch:=omega),by simp (disch:=omega),by simp (disch:=omega),by simp (disch:=omega),by simp (disch:=omega),by simp (disch:=omega),by omega,by omega,by first | omega | (simp; done) | (simp; omega),rfl⟩
     ·simp at h92
    ·have c2 : (B == 0) = false:=by simp [hB0]
     have hm':=hm
     rw [if_neg (fun h=>hB0 h.2)] at hm'
     refine .r ?_ (by simp (disch:=first|exact zd|fail) [c1,c2]; rfl)
     refine hK10 _ ?_
     refine .c (fun h92=>?_) (fun h92=>?_)
     ·simp at h92
     ·try simp only[dc]at h92
      refine .skip ?_
      refine hK9 _ ?_
      refine .sq fun K29 hK29=>?_
      refine .d 14 ?_
      refine .k 6 (fun fs30 hfs30=>?_)
      refine .f cC hb196 ?_
      refine .k 6 (fun fs31 hfs31=>?_)
      refine .f cD hb196 ?_
      refine .r 14 (by simp only[ln,hfs30,hfs31];omega) ?_
      refine hK29 _ ?_
      refine .sq fun K32 hK32=>?_
      refine .sq fun K33 hK33=>?_
      cases q3 : decide (0 < sg3 A * sg3 B)
      ·refine .region ?_
       refine .kf 1 (signI_fc A) hb119 ?_ (by simp (disch:=first|exact zd|fail) [List.take_succ_cons,List.take_zero,q3]; rfl) (ha:=by simp (disch:=first|exact zd|fail) [idf_Wd',q3])
       refine .kf 1 (signI_fc B) hb119 ?_ (by simp (disch:=first|exact zd|fail) [List.take_succ_cons,List.take_zero,q3]; rfl) (ha:=by simp (disch:=first|exact zd|fail) [idf_Wd',q3])
       refine .kf 4 (signI_fc C) hb119 ?_ (by simp (disch:=first|exact zd|fail) [List.take_succ_cons,List.take_zero,q3]; rfl) (ha:=by simp (disch:=first|exact zd|fail) [idf_Wd',q3])
       refine .kf 1 (signI_fc D) hb119 ?_ (by simp (disch:=first|exact zd|fail) [List.take_succ_cons,List.take_zero,q3]; rfl) (ha:=by simp (disch:=first|exact zd|fail) [idf_Wd',q3])
       refine .e ?_ (by simp (disch:=first|exact zd|fail) [q3]; rfl)
       refine hK33 _ ?_
       refine .c (t:=decide (0 < sg3 C * sg3 D)) (fun h159=>?_) (fun h159=>?_)
       ·try simp only[dc]at h159
        have hw : noWay u v = true:=by rw [hnw,q3]; simp [h159]
        refine .sq fun K34 hK34=>?_
        refine .region ?_
        refine .k 1 ?_
        refine AOPS.fcall (none_fc) rfl rfl (by simp; rfl) hbNone (by simp (disch:=first|exact zd|fail) [idf_Wd']) (by simp (disch:=first|exact zd|fail)) (by simp) ?_
        simp only [puts_some,updo]
        refine .e ?_
        refine hK34 _ ?_
        refine .ret ?_
        exact hK _ _ _ _ trivial ((Fin.m).cast (by rw [hm',if_pos hw]; try rfl))
       ·try simp only[dc]at h159
        have hw : ¬ noWay u v = true:=by rw [hnw,q3]; simp; omega
        have b1 : Bg 1 v.a.x:=Bg.i64 (by omega) (by omega)
        have b2 : Bg 1 v.a.y:=Bg.i64 (by omega) (by omega)
        have b3 : Bg 1 A:=Bg.i64 (by omega) (by omega)
        have b4 : Bg 1 (A - B):=Bg.i64 (by omega) (by omega)
        have b5 : Bg 1 (v.b.x - v.a.x):=Bg.i64 (by omega) (by omega)
        have b6 : Bg 1 (v.b.y - v.a.y):=Bg.i64 (by omega) (by omega)
        refine .skip ?_
        refine hK32 _ ?_
        refine .sq fun K35 hK35=>?_
        refine .region ?_
        refine .kf 3 (whole_fc (A - B) (by omega) (by omega)) hb143 ?_
        refine .e ?_
        refine hK35 _ ?_
        refine .sq fun K36 hK36=>?_
        refine .d 19 ?_
        refine .k 3 (fun fs37 hfs37=>?_)
        refine .f (whole_fc v.a.x (by omega) (by omega)) hb143 ?_
        refine .k 1 (fun fs38 hfs38=>?_)
        refine .f (by_fc b1 b4 (by omega) (by omega)) hb197 ?_
        refine .k 1 (fun fs39 hfs39=>?_)
        refine .f (whole_fc A (by omega) (by omega)) hb143 ?_
        refine .k 7 (fun fs40 hfs40=>?_)
        refine .f (whole_fc (v.b.x - v.a.x) (by omega) (by omega)) hb143 ?_
        refine .f (by_fc b3 b5 (by omega) (by omega)) hb197 ?_
        refine .f (plus_fc (b1.mul b4) (b3.mul b5) (by omega) (by omega)) hb198 ?_
        refine .k 1 (fun fs41 hfs41=>?_)
        refine .r 19 (by simp only[ln,hfs37,hfs38,hfs39,hfs40,hfs41];omega) ?_
        refine hK36 _ ?_
        refine .sq fun K42 hK42=>?_
        refine .d 19 ?_
        refine .k 3 (fun fs43 hfs43=>?_)
        refine .f (whole_fc v.a.y (by omega) (by omega)) hb143 ?_
        refine .k 1 (fun fs44 hfs44=>?_)
        refine .f (by_fc b2 b4 (by omega) (by omega)) hb197 ?_
        refine .k 1 (fun fs45 hfs45=>?_)
        refine .f (whole_fc A (by omega) (by omega)) hb143 ?_
        refine .k 7 (fun fs46 hfs46=>?_)
        refine .f (whole_fc (v.b.y - v.a.y) (by omega) (by omega)) hb143 ?_
        refine .f (by_fc b3 b6 (by omega) (by omega)) hb197 ?_
        refine .f (plus_fc (b2.mul b4) (b3.mul b6) (by omega) (by omega)) hb198 ?_
        refine .k 1 (fun fs47 hfs47=>?_)
        refine .r 19 (by simp only[ln,hfs43,hfs44,hfs45,hfs46,hfs47];omega) ?_
        refine hK42 _ ?_
        refine .sq fun K48 hK48=>?_
        refine .region ?_
        refine .kf 4 (spotPoint_fc (j:=3) (v.a.x * (A - B) + A * (v.b.x - v.a.x)) (v.a.y * (A - B) + A * (v.b.y - v.a.y)) (A - B) (((b1.mul b4).add (b3.mul b5)).le (by omega)) (((b2.mul b4).add (b3.mul b6)).le (by omega)) (b4.le (by omega)) (by omega)) hb199 ?_
        refine .e ?_
        refine hK48 _ ?_
        refine .sq fun K49 hK49=>?_
        refine .old fun hold=>?_
        refine .d 2 ?_
        refine .k 1 (fun fs50 hfs50=>?_)
        refine DP.runF1q (by simp (disch:=first|exact zd|fail); rfl) fun fq51 hfq51=>?_
        simp [qids,asksB,Op.operands,topId] at hfq51
        simp only [updo]
        refine DQ.asg1 _ rfl rfl ?_
        simp only [updo]
        refine DQ.sto1 (m:=2) [1] _ (by simp (disch:=first|exact zd|fail); rfl) rfl (by simp only[ln,hfs50];omega) (by kernel_rfl) (by intro k f hk hex; simp only [List.mem_cons,List.not_mem_nil,or_false] at hex; rcases hex with rfl <;> (simp [List.getElem?_append,hfs50] at hk; subst hk; refine ⟨?_,by first | omega | (simp; done) | (simp; omega)⟩; simp [qids,asksB,Op.operands,Call.operands,topId,numS,numI,Wd,hfq51]; try omega)) ?_
        try simp only []
        refine DQ.sto1 (m:=2) [] _ (by simp (disch:=first|exact zd|fail); rfl) rfl (by simp only[ln,hfs50];omega) (by kernel_rfl) (by intro k f hk hex; simp only [List.not_mem_nil] at hex) ?_
        try simp only []
        refine hK49 _ ?_
        refine .ret ?_
        exact hK _ _ _ _ trivial ((Fin.m).cast (by rw [hm',if_neg hw,eX,eY,eW]; try rfl))
      ·refine .region ?_
       refine .kf 1 (signI_fc A) hb119 ?_ (by simp (disch:=first|exact zd|fail) [List.take_succ_cons,List.take_zero,q3]; rfl) (ha:=by simp (disch:=first|exact zd|fail) [idf_Wd',q3])
       refine .kf 1 (signI_fc B) hb119 ?_ (by simp (disch:=first|exact zd|fail) [List.take_succ_cons,List.take_zero,q3]; rfl) (ha:=by simp (disch:=first|exact zd|fail) [idf_Wd',q3])
       refine .e ?_ (by simp (disch:=first|exact zd|fail) [q3]; rfl)
       refine hK33 _ ?_
       refine .c (fun h159=>?_) (fun h159=>?_)
       ·try simp only[dc]at h159
        have hw : noWay u v = true:=by rw [hnw,q3]; rfl
        refine .sq fun K52 hK52=>?_
        refine .region ?_
        refine .k 1 ?_
        refine AOPS.fcall (none_fc) rfl rfl (by simp; rfl) hbNone (by simp (disch:=first|exact zd|fail) [idf_Wd']) (by simp (disch:=first|exact zd|fail)) (by simp) ?_
        simp only [puts_some,updo]
        refine .e ?_
        refine hK52 _ ?_
        refine .ret ?_
        exact hK _ _ _ _ trivial ((Fin.m).cast (by rw [hm',if_pos hw]; try rfl))
       ·simp at h159
   ·have c1 : (A == 0) = false:=by simp [hA0]
    have hm':=hm
    rw [if_neg (fun h=>hA0 h.1)] at hm'
    refine .r ?_ (by simp (disch:=first|exact zd|fail) [c1]; rfl)
    refine hK10 _ ?_
    refine .c (fun h92=>?_) (fun h92=>?_)
    ·simp at h92
    ·try simp only[dc]at h92
     refine .skip ?_
     refine hK9 _ ?_
     refine .sq fun K53 hK53=>?_
     refine .d 14 ?_
     refine .k 6 (fun fs54 hfs54=>?_)
     refine .f cC hb196 ?_
     refine .k 6 (fun fs55 hfs55=>?_)
     refine .f cD hb196 ?_
     refine .r 14 (by simp only[ln,hfs54,hfs55];omega) ?_
     refine hK53 _ ?_
     refine .sq fun K56 hK56=>?_
     refine .sq fun K57 hK57=>?_
     cases q3 : decide (0 < sg3 A * sg3 B)
     ·refine .region ?_
      refine .kf 1 (signI_fc A) hb119 ?_ (by simp (disch:=first|exact zd|fail) [List.take_succ_cons,List.take_zero,q3]; rfl) (ha:=by simp (disch:=first|exact zd|fail) [idf_Wd',q3])
      refine .kf 1 (signI_fc B) hb119 ?_ (by simp (disch:=first|exact zd|fail) [List.take_succ_cons,List.take_zero,q3]; rfl) (ha:=by simp (disch:=first|exact zd|fail) [idf_Wd',q3])
      refine .kf 4 (signI_fc C) hb119 ?_ (by simp (disch:=first|exact zd|fail) [List.take_succ_cons,List.take_zero,q3]; rfl) (ha:=by simp (disch:=first|exact zd|fail) [idf_Wd',q3])
      refine .kf 1 (signI_fc D) hb119 ?_ (by simp (disch:=first|exact zd|fail) [List.take_succ_cons,List.take_zero,q3]; rfl) (ha:=by simp (disch:=first|exact zd|fail) [idf_Wd',q3])
      refine .e ?_ (by simp (disch:=first|exact zd|fail) [q3]; rfl)
      refine hK57 _ ?_
      refine .c (t:=decide (0 < sg3 C * sg3 D)) (fun h159=>?_) (fun h159=>?_)
      ·try simp only[dc]at h159
       have hw : noWay u v = true:=by rw [hnw,q3]; simp [h159]
       refine .sq fun K58 hK58=>?_
       refine .region ?_
       refine .k 1 ?_
       refine AOPS.fcall (none_fc) rfl rfl (by simp; rfl) hbNone (by simp (disch:=first|exact zd|fail) [idf_Wd']) (by simp (disch:=first|exact zd|fail)) (by simp) ?_
       simp only [puts_some,updo]
       refine .e ?_
       refine hK58 _ ?_
       refine .ret ?_
       exact hK _ _ _ _ trivial ((Fin.m).cast (by rw [hm',if_pos hw]; try rfl))
      ·try simp only[dc]at h159
       have hw : ¬ noWay u v = true:=by rw [hnw,q3]; simp; omega
       have b1 : Bg 1 v.a.x:=Bg.i64 (by omega) (by omega)
       have b2 : Bg 1 v.a.y:=Bg.i64 (by omega) (by omega)
       have b3 : Bg 1 A:=Bg.i64 (by omega) (by omega)
       have b4 : Bg 1 (A - B):=Bg.i64 (by omega) (by omega)
       have b5 : Bg 1 (v.b.x - v.a.x):=Bg.i64 (by omega) (by omega)
       have b6 : Bg 1 (v.b.y - v.a.y):=Bg.i64 (by omega) (by omega)
       refine .skip ?_
       refine hK56 _ ?_
       refine .sq fun K59 hK59=>?_
       refine .region ?_
       refine .kf 3 (whole_fc (A - B) (by omega) (by omega)) hb143 ?_
       refine .e ?_
       refine hK59 _ ?_
       refine .sq fun K60 hK60=>?_
       refine .d 19 ?_
       refine .k 3 (fun fs61 hfs61=>?_)
       refine .f (whole_fc v.a.x (by omega) (by omega)) hb143 ?_
       refine .k 1 (fun fs62 hfs62=>?_)
       refine .f (by_fc b1 b4 (by omega) (by omega)) hb197 ?_
       refine .k 1 (fun fs63 hfs63=>?_)
       refine .f (whole_fc A (by omega) (by omega)) hb143 ?_
       refine .k 7 (fun fs64 hfs64=>?_)
       refine .f (whole_fc (v.b.x - v.a.x) (by omega) (by omega)) hb143 ?_
       refine .f (by_fc b3 b5 (by omega) (by omega)) hb197 ?_
       refine .f (plus_fc (b1.mul b4) (b3.mul b5) (by omega) (by omega)) hb198 ?_
       refine .k 1 (fun fs65 hfs65=>?_)
       refine .r 19 (by simp only[ln,hfs61,hfs62,hfs63,hfs64,hfs65];omega) ?_
       refine hK60 _ ?_
       refine .sq fun K66 hK66=>?_
       refine .d 19 ?_
       refine .k 3 (fun fs67 hfs67=>?_)
       refine .f (whole_fc v.a.y (by omega) (by omega)) hb143 ?_
       refine .k 1 (fun fs68 hfs68=>?_)
       refine .f (by_fc b2 b4 (by omega) (by omega)) hb197 ?_
       refine .k 1 (fun fs69 hfs69=>?_)
       refine .f (whole_fc A (by omega) (by omega)) hb143 ?_
       refine .k 7 (fun fs70 hfs70=>?_)
       refine .f (whole_fc (v.b.y - v.a.y) (by omega) (by omega)) hb143 ?_
       refine .f (by_fc b3 b6 (by omega) (by omega)) hb197 ?_
       refine .f (plus_fc (b2.mul b4) (b3.mul b6) (by omega) (by omega)) hb198 ?_
       refine .k 1 (fun fs71 hfs71=>?_)
       refine .r 19 (by simp only[ln,hfs67,hfs68,hfs69,hfs70,hfs71];omega) ?_
       refine hK66 _ ?_
       refine .sq fun K72 hK72=>?_
       refine .region ?_
       refine .kf 4 (spotPoint_fc (j:=3) (v.a.x * (A - B) + A * (v.b.x - v.a.x)) (v.a.y * (A - B) + A * (v.b.y - v.a.y)) (A - B) (((b1.mul b4).add (b3.mul b5)).le (by omega)) (((b2.mul b4).add (b3.mul b6)).le (by omega)) (b4.le (by omega)) (by omega)) hb199 ?_
       refine .e ?_
       refine hK72 _ ?_
       refine .sq fun K73 hK73=>?_
       refine .old fun hold=>?_
       refine .d 2 ?_
       refine .k 1 (fun fs74 hfs74=>?_)
       refine DP.runF1q (by simp (disch:=first|exact zd|fail); rfl) fun fq75 hfq75=>?_
       simp [qids,asksB,Op.operands,topId] at hfq75
       simp only [updo]
       refine DQ.asg1 _ rfl rfl ?_
       simp only [updo]
       refine DQ.sto1 (m:=2) [1] _ (by simp (disch:=first|exact zd|fail); rfl) rfl (by simp only[ln,hfs74];omega) (by kernel_rfl) (by intro k f hk hex; simp only [List.mem_cons,List.not_mem_nil,or_false] at hex; rcases hex with rfl <;> (simp [List.getElem?_append,hfs74] at hk; subst hk; refine ⟨?_,by first | omega | (simp; done) | (simp; omega)⟩; simp [qids,asksB,Op.operands,Call.operands,topId,numS,numI,Wd,hfq75]; try omega)) ?_
       try simp only []
       refine DQ.sto1 (m:=2) [] _ (by simp (disch:=first|exact zd|fail); rfl) rfl (by simp only[ln,hfs74];omega) (by kernel_rfl) (by intro k f hk hex; simp only [List.not_mem_nil] at hex) ?_
       try simp only []
       refine hK73 _ ?_
       refine .ret ?_
       exact hK _ _ _ _ trivial ((Fin.m).cast (by rw [hm',if_neg hw,eX,eY,eW]; try rfl))
     ·refine .region ?_
      refine .kf 1 (signI_fc A) hb119 ?_ (by simp (disch:=first|exact zd|fail) [List.take_succ_cons,List.take_zero,q3]; rfl) (ha:=by simp (disch:=first|exact zd|fail) [idf_Wd',q3])
      refine .kf 1 (signI_fc B) hb119 ?_ (by simp (disch:=first|exact zd|fail) [List.take_succ_cons,List.take_zero,q3]; rfl) (ha:=by simp (disch:=first|exact zd|fail) [idf_Wd',q3])
      refine .e ?_ (by simp (disch:=first|exact zd|fail) [q3]; rfl)
      refine hK57 _ ?_
      refine .c (fun h159=>?_) (fun h159=>?_)
      ·try simp only[dc]at h159
       have hw : noWay u v = true:=by rw [hnw,q3]; rfl
       refine .sq fun K76 hK76=>?_
       refine .region ?_
       refine .k 1 ?_
       refine AOPS.fcall (none_fc) rfl rfl (by simp; rfl) hbNone (by simp (disch:=first|exact zd|fail) [idf_Wd']) (by simp (disch:=first|exact zd|fail)) (by simp) ?_
       simp only [puts_some,updo]
       refine .e ?_
       refine hK76 _ ?_
       refine .ret ?_
       exact hK _ _ _ _ trivial ((Fin.m).cast (by rw [hm',if_pos hw]; try rfl))
      ·simp at h159
 ·refine .r ?_ (by simp (disch:=first|exact zd|fail) [mx_fold,mn_fold,q1]; rfl)
  refine hK4 _ ?_
  refine .c (fun h67=>?_) (fun h67=>?_)
  ·try simp only[dc]at h67
   have hm:=hmt (by rw [hap,q1]; rfl)
   refine .sq fun K77 hK77=>?_
   refine .region ?_
   refine .k 1 ?_
   refine AOPS.fcall (none_fc) rfl rfl (by simp; rfl) hbNone (by simp (disch:=first|exact zd|fail) [idf_Wd']) (by simp (disch:=first|exact zd|fail)) (by simp) ?_
   simp only [puts_some,updo]
   refine .e ?_
   refine hK77 _ ?_
   refine .ret ?_
   exact hK _ _ _ _ trivial ((Fin.m).cast (by rw [hm]; try rfl))
  ·simp at h67
end

end Go.Proofs.YtjbbbkfdcegfmaaGreat

/- Walks: where segments meet, by the reference; FnExactMeet. -/
namespace Go.Proofs.YtjbbbkfdcegfmaaGreat
open Go Go.RowKit
set_option linter.unusedSimpArgs false
set_option linter.unusedVariables false
set_option maxRecDepth 100000
attribute [local simp] szT2 byT2 agT2 unT2 zoT2 szT4 byT4 agT4 unT4 zoT4 szT83 byT83 agT83 flT83 fdT83_0 fdT83_1 zoT83 szT85 byT85 agT85 flT85 fdT85_0 fdT85_1 zoT85 szT103 byT103 agT103 elT103 unT103 zoT103 szT105 byT105 agT105 flT105 fdT105_0 fdT105_1 zoT105 szT107 byT107 agT107 flT107 fdT107_0 fdT107_1 fdT107_2 zoT107 srT103

def z3 : AV:=.agg [.bool false,.nsl,.bool false,.nsl,.bool false,.nsl]
def nX (u v : Sg) : Int:=nrm (denS u v) (wayX2 u v) / gcd3 (wayX2 u v) (wayY2 u v) (denS u v)
def nY (u v : Sg) : Int:=nrm (denS u v) (wayY2 u v) / gcd3 (wayX2 u v) (wayY2 u v) (denS u v)
def nW (u v : Sg) : Int:=nrm (denS u v) (denS u v) / gcd3 (wayX2 u v) (wayY2 u v) (denS u v)
def l4V (u v : Sg) : AV:=if crs u.a u.b v.a = 0 ∧ crs u.a u.b v.b = 0 then (if lsS (highS u v) (lowS u v) = true then .tup [.int .i64 0,z3,z3] else if lowS u v = highS u v then .tup [.int .i64 1,l3A (lowS u v).x (lowS u v).y 1,z3] else .tup [.int .i64 2,l3A (lowS u v).x (lowS u v).y 1,l3A (highS u v).x (highS u v).y 1])
  else if noWay u v = true then .tup [.int .i64 0,z3,z3] else .tup [.int .i64 1,l3A (nX u v) (nY u v) (nW u v),z3]
theorem idf_l4V (u v : Sg) : idf (l4V u v):=by
  unfold l4V; repeat' split
  all_goals simp [idf,idfL,z3,l3A,l3C,idf_Wd']
theorem sg0 {z : Int} (h : z = 0) : (sg3 z == 0) = true:=by simp [sg3_zero,h]
theorem sg1 {z : Int} (h : ¬ z = 0) : (sg3 z == 0) = false:=by simp [sg3_zero,h]
theorem den_ne {u v : Sg} (gu : u.good = true) (gv : v.good = true) (h0 : ¬ (crs u.a u.b v.a = 0 ∧ crs u.a u.b v.b = 0)) (h : ¬ noWay u v = true) : denS u v ≠ 0:=by
  have:=(way_apart (good_ls gu) (good_ls gv) h0 (by simpa using h)).1
  rw [den_w]; omega
theorem low_good {u v : Sg} (gu : u.good = true) (gv : v.good = true) : (lowS u v).good = true:=by unfold lowS; split; exact good_a gv; exact good_a gu
theorem high_good {u v : Sg} (gu : u.good = true) (gv : v.good = true) : (highS u v).good = true:=by unfold highS; split; exact good_b gv; exact good_b gu

theorem l1In_fc (n a b : Int) : FC Tryz.prog 58 [.int .i64 n,.int .i64 a,.int .i64 b] (.bool (decide (a ≤ n) && decide (n ≤ b))):=by
 refine .b Tryz.func58 15 (fun nx K hK=>?_)
 refine .q ?_
 refine .sq fun K2 hK2=>?_
 cases h : decide (a ≤ n)
 ·refine .r ?_ (by simp (disch:=first|exact zd|fail) [h]; rfl)
  refine hK2 _ ?_
  refine .ret ?_
  exact hK _ _ _ _ trivial ((Fin.m).cast (by rw [h]; rfl))
 ·refine .r ?_ (by simp (disch:=first|exact zd|fail) [h]; rfl)
  refine hK2 _ ?_
  refine .ret ?_
  exact hK _ _ _ _ trivial ((Fin.m).cast (by rw [h]; rfl))
theorem l1InM_fc (n : Int) : FC Tryz.prog 58 [.int .i64 n,.int .i64 (-1000000),.int .i64 1000000] (.bool (inM n)):=l1In_fc n (-1000000) 1000000
section
attribute [local simp] Sp.av Sp.cells Sg.av Sg.cells
theorem spotOkS_fc (p : Sp) : FC Tryz.prog 188 [p.av] (.bool p.good):=by
 refine .b Tryz.func188 11 (fun nx K hK=>?_) (hi:=by simp [idfL,idf,Sp.av,Sp.cells,Sg.av,Sg.cells])
 refine .q ?_
 refine .sq fun K2 hK2=>?_
 cases hx : inM p.x
 ·refine .region ?_
  refine .kf 2 (l1InM_fc p.x) hb58 ?_ (by simp (disch:=first|exact zd|fail) [List.take_succ_cons,List.take_zero,hx]; rfl) (ha:=by simp (disch:=first|exact zd|fail) [idf_Wd',hx])
  refine .e ?_ (by simp (disch:=first|exact zd|fail) [hx]; rfl)
  refine hK2 _ ?_
  refine .ret ?_
  exact hK _ _ _ _ trivial ((Fin.m).cast (by unfold Sp.good; rw [hx]; rfl))
 ·refine .region ?_
  refine .kf 2 (l1InM_fc p.x) hb58 ?_ (by simp (disch:=first|exact zd|fail) [List.take_succ_cons,List.take_zero,hx]; rfl) (ha:=by simp (disch:=first|exact zd|fail) [idf_Wd',hx])
  refine .kf 3 (l1InM_fc p.y) hb58 ?_ (by simp (disch:=first|exact zd|fail) [List.take_succ_cons,List.take_zero,hx]; rfl) (ha:=by simp (disch:=first|exact zd|fail) [idf_Wd',hx])
  refine .e ?_ (by simp (disch:=first|exact zd|fail) [hx]; rfl)
  refine hK2 _ ?_
  refine .ret ?_
  exact hK _ _ _ _ trivial ((Fin.m).cast (by unfold Sp.good; rw [hx]; rfl))
theorem l4Less_fc (p q : Sp) : FC Tryz.prog 189 [p.av,q.av] (.bool (lsS p q)):=by
 refine .b Tryz.func189 24 (fun nx K hK=>?_) (hi:=by simp [idfL,idf,Sp.av,Sp.cells,Sg.av,Sg.cells])
 refine .q ?_
 refine .sq fun K2 hK2=>?_
 by_cases q1 : p.x < q.x
 ·have hl : lsS p q = true:=by simp [lsS,q1]
  have c1 : decide (p.x < q.x) = true:=by simp [q1]
  refine .r ?_ (by simp (disch:=first|exact zd|fail) [c1]; rfl)
  refine hK2 _ ?_
  refine .ret ?_
  exact hK _ _ _ _ trivial ((Fin.m).cast (by rw [hl]; try rfl))
 ·have c1 : decide (p.x < q.x) = false:=by simp; omega
  by_cases q2 : p.x = q.x
  ·have c2 : (p.x == q.x) = true:=by simp [q2]
   have hl : lsS p q = decide (p.y < q.y):=by simp [lsS,q2]
   refine .r ?_ (by simp (disch:=first|exact zd|fail) [c1,c2]; rfl)
   refine hK2 _ ?_
   refine .ret ?_
   exact hK _ _ _ _ trivial ((Fin.m).cast (by rw [hl]))
  ·have c2 : (p.x == q.x) = false:=by simp [q2]
   have hl : lsS p q = false:=by simp [lsS,q2]; omega
   refine .r ?_ (by simp (disch:=first|exact zd|fail) [c1,c2]; rfl)
   refine hK2 _ ?_
   refine .ret ?_
   exact hK _ _ _ _ trivial ((Fin.m).cast (by rw [hl]; try rfl))
theorem segOkS_fc (s : Sg) : FC Tryz.prog 149 [s.av] (.bool s.good):=by
 refine .b Tryz.func149 18 (fun nx K hK=>?_) (hi:=by simp [idfL,idf,Sp.av,Sp.cells,Sg.av,Sg.cells])
 refine .q ?_
 refine .sq fun K2 hK2=>?_
 cases ha : s.a.good
 ·refine .region ?_
  refine .kf 2 (spotOkS_fc s.a) hb188 ?_ (by simp (disch:=first|exact zd|fail) [List.take_succ_cons,List.take_zero,ha]; rfl) (ha:=by simp (disch:=first|exact zd|fail) [idf_Wd',ha])
  refine .e ?_ (by simp (disch:=first|exact zd|fail) [ha]; rfl)
  refine hK2 _ ?_
  refine .ret ?_
  exact hK _ _ _ _ trivial ((Fin.m).cast (by unfold Sg.good; rw [ha]; rfl))
 ·cases hb : s.b.good
  ·refine .region ?_
   refine .kf 2 (spotOkS_fc s.a) hb188 ?_ (by simp (disch:=first|exact zd|fail) [List.take_succ_cons,List.take_zero,ha,hb]; rfl) (ha:=by simp (disch:=first|exact zd|fail) [idf_Wd',ha,hb])
   refine .kf 3 (spotOkS_fc s.b) hb188 ?_ (by simp (disch:=first|exact zd|fail) [List.take_succ_cons,List.take_zero,ha,hb]; rfl) (ha:=by simp (disch:=first|exact zd|fail) [idf_Wd',ha,hb])
   refine .e ?_ (by simp (disch:=first|exact zd|fail) [ha,hb]; rfl)
   refine hK2 _ ?_
   refine .ret ?_
   exact hK _ _ _ _ trivial ((Fin.m).cast (by unfold Sg.good; rw [ha,hb]; rfl))
  ·refine .region ?_
   refine .kf 2 (spotOkS_fc s.a) hb188 ?_ (by simp (disch:=first|exact zd|fail) [List.take_succ_cons,List.take_zero,ha,hb,lsS_dec]; rfl) (ha:=by simp (disch:=first|exact zd|fail) [idf_Wd',ha,hb,lsS_dec])
   refine .kf 3 (spotOkS_fc s.b) hb188 ?_ (by simp (disch:=first|exact zd|fail) [List.take_succ_cons,List.take_zero,ha,hb,lsS_dec]; rfl) (ha:=by simp (disch:=first|exact zd|fail) [idf_Wd',ha,hb,lsS_dec])
   refine .kf 6 (l4Less_fc s.a s.b) hb189 ?_ (by simp (disch:=first|exact zd|fail) [List.take_succ_cons,List.take_zero,ha,hb,lsS_dec]; rfl) (ha:=by simp (disch:=first|exact zd|fail) [idf_Wd',ha,hb,lsS_dec])
   refine .e ?_ (by simp (disch:=first|exact zd|fail) [ha,hb,lsS_dec]; rfl)
   refine hK2 _ ?_
   refine .ret ?_
   exact hK _ _ _ _ trivial ((Fin.m).cast (by unfold Sg.good; rw [ha,hb]; rfl))
set_option maxHeartbeats 1000000 in
theorem l4Turn_fc (a b c : Sp) (ha : a.good = true) (hb : b.good = true) (hc : c.good = true) : FC Tryz.prog 190 [a.av,b.av,c.av] (.int .i64 (sg3 (crs a b c))):=by
 have pa:=Sp.b ha
 have pb:=Sp.b hb
 have pc:=Sp.b hc
 have m1:=mul_b (u:=b.x - a.x) (v:=c.y - a.y) (m:=2000000) (n:=2000000) (by omega) (by omega) (by omega) (by omega) (by omega)
 have m2:=mul_b (u:=b.y - a.y) (v:=c.x - a.x) (m:=2000000) (n:=2000000) (by omega) (by omega) (by omega) (by omega) (by omega)
 have e : (b.x - a.x) * (c.y - a.y) - (b.y - a.y) * (c.x - a.x) = crs a b c:=rfl
 refine .b Tryz.func190 35 (fun nx K hK=>?_) (hi:=by simp [idfL,idf,Sp.av,Sp.cells,Sg.av,Sg.cells])
 refine .q ?_
 refine .q ?_
 refine .sq fun K3 hK3=>?_
 refine .q ?_ (by simp (disch:=first|exact zd|fail) [e]; rfl)
 refine .c (t:=decide (crs a b c < 0)) (fun h32=>?_) (fun h32=>?_)
 ·try simp only[dc]at h32
  refine .q ?_
  refine .ret ?_
  exact hK _ _ _ _ trivial ((Fin.m).cast (by unfold sg3; rw [if_pos h32]))
 ·try simp only[dc]at h32
  refine .skip ?_
  refine hK3 _ ?_
  refine .sq fun K6 hK6=>?_
  refine .q ?_ (by simp (disch:=first|exact zd|fail) [e]; rfl)
  refine .c (t:=decide (0 < crs a b c)) (fun h34=>?_) (fun h34=>?_)
  ·try simp only[dc]at h34
   refine .q ?_
   refine .ret ?_
   exact hK _ _ _ _ trivial ((Fin.m).cast (by unfold sg3; rw [if_neg h32,if_pos h34]))
  ·try simp only[dc]at h34
   refine .skip ?_
   refine hK6 _ ?_
   refine .q ?_
   refine .ret ?_
   exact hK _ _ _ _ trivial ((Fin.m).cast (by unfold sg3; rw [if_neg h32,if_neg h34]))
end
section
attribute [local simp] idf_numS cells_numS numS_fold Sp.av Sp.cells Sg.av Sg.cells l3A l3C
set_option maxHeartbeats 8000000 in
theorem l4Meet_fc (u v : Sg) (gu : u.good = true) (gv : v.good = true) : FC Tryz.prog 152 [u.av,v.av] (l4V u v):=by
 have ua:=good_a gu
 have ub:=good_b gu
 have va:=good_a gv
 have vb:=good_b gv
 have pua:=Sp.b ua
 have pub:=Sp.b ub
 have pva:=Sp.b va
 have pvb:=Sp.b vb
 have cA:=l4Turn_fc u.a u.b v.a ua ub va
 have cB:=l4Turn_fc u.a u.b v.b ua ub vb
 have cC:=l4Turn_fc v.a v.b u.a va vb ua
 have cD:=l4Turn_fc v.a v.b u.b va vb ub
 have hnw : noWay u v = (decide (0 < sg3 (crs u.a u.b v.a) * sg3 (crs u.a u.b v.b)) || decide (0 < sg3 (crs v.a v.b u.a) * sg3 (crs v.a v.b u.b))):=rfl
 have sAB:=mul_sg (crs u.a u.b v.a) (crs u.a u.b v.b)
 have sCD:=mul_sg (crs v.a v.b u.a) (crs v.a v.b u.b)
 obtain ⟨A,hA⟩ : ∃ A,crs u.a u.b v.a = A:=⟨_,rfl⟩
 obtain ⟨B,hB⟩ : ∃ B,crs u.a u.b v.b = B:=⟨_,rfl⟩
 rw [hA] at cA sAB hnw
 rw [hB] at cB sAB hnw
 generalize crs v.a v.b u.a = C at *
 generalize crs v.a v.b u.b = D at *
 refine .b Tryz.func152 181 (fun nx K hK=>?_) (hi:=by simp [idfL,idf,Sp.av,Sp.cells,Sg.av,Sg.cells]) (hr:=idf_l4V u v)
 refine .q ?_
 refine .sq fun K2 hK2=>?_
 refine .region ?_
 refine .kf 6 cA hb190 ?_
 refine .e ?_
 refine hK2 _ ?_
 refine .sq fun K3 hK3=>?_
 refine .region ?_
 refine .kf 6 cB hb190 ?_
 refine .e ?_
 refine hK3 _ ?_
 refine .sq fun K4 hK4=>?_
 refine .region ?_
 refine .kf 6 cC hb190 ?_
 refine .e ?_
 refine hK4 _ ?_
 refine .sq fun K5 hK5=>?_
 refine .region ?_
 refine .kf 6 cD hb190 ?_
 refine .e ?_
 refine hK5 _ ?_
 refine .sq fun K6 hK6=>?_
 refine .sq fun K7 hK7=>?_
 by_cases hA0 : A = 0
 ·have c1:=sg0 hA0
  by_cases hB0 : B = 0
  ·have c2:=sg0 hB0
   have h0 : A = 0 ∧ B = 0:=⟨hA0,hB0⟩
   refine .r ?_ (by simp (disch:=first|exact zd|fail) [c1,c2]; rfl)
   refine hK7 _ ?_
   refine .c (fun h54=>?_) (fun h54=>?_)
   ·try simp only[dc]at h54
    refine .q ?_
    refine .sq fun K9 hK9=>?_
    have J9 : ∀ s : St,(∃ lo : Sp,lo = lowS u v ∧ s.env 2 = .ptr nx 0 0 ∧ s.env 3 = .ptr (nx + 1) 0 0 ∧ s.env 5 = .ptr (nx + 1 + 1) 0 0 ∧ s.env 6 = .ptr (nx + 1 + 1 + 1) 0 0 ∧ s.env 11 = .ptr (nx + 1 + 1 + 1 + 1) 0 0 ∧ s.heap nx = some (4,[[.int .i64 u.a.x,.int .i64 u.a.y,.int .i64 u.b.x,.int .i64 u.b.y]]) ∧ s.heap (nx + 1) = some (4,[[.int .i64 v.a.x,.int .i64 v.a.y,.int .i64 v.b.x,.int .i64 v.b.y]]) ∧ s.heap (nx + 1 + 1) = some (6,[[.bool false,.nsl,.bool false,.nsl,.bool false,.nsl]]) ∧ s.heap (nx + 1 + 1 + 1) = some (6,[[.bool false,.nsl,.bool false,.nsl,.bool false,.nsl]]) ∧ s.heap (nx + 1 + 1 + 1 + 1) = some (2,[[.int .i64 lo.x,.int .i64 lo.y]]) ∧ (nx + 1 + 1 + 1 + 1) < s.nx ∧ s.nt = 181) → K9 s:=by
     rintro ⟨e,H,mm,nt⟩ ⟨lo,hlo,g2,g3,g5,g6,g11,hU,hV,hP,hQ,hL,hm,rfl⟩
     simp only [] at g2 g3 g5 g6 g11 hU hV hP hQ hL hm
     refine hK9 _ ?_
     refine .q ?_ (by simp (disch:=first|exact zd|fail) [g2,g3,g5,g6,g11,hU,hV,hP,hQ,hL]; rfl)
     refine .sq fun K11 hK11=>?_
     have J11 : ∀ s : St,(∃ (lo hi : Sp) (ib : Nat),lo = lowS u v ∧ hi = highS u v ∧ s.env 2 = .ptr nx 0 0 ∧ s.env 3 = .ptr (nx + 1) 0 0 ∧ s.env 5 = .ptr (nx + 1 + 1) 0 0 ∧ s.env 6 = .ptr (nx + 1 + 1 + 1) 0 0 ∧ s.env 11 = .ptr (nx + 1 + 1 + 1 + 1) 0 0 ∧ s.heap nx = some (4,[[.int .i64 u.a.x,.int .i64 u.a.y,.int .i64 u.b.x,.int .i64 u.b.y]]) ∧ s.heap (nx + 1) = some (4,[[.int .i64 v.a.x,.int .i64 v.a.y,.int .i64 v.b.x,.int .i64 v.b.y]]) ∧ s.heap (nx + 1 + 1) = some (6,[[.bool false,.nsl,.bool false,.nsl,.bool false,.nsl]]) ∧ s.heap (nx + 1 + 1 + 1) = some (6,[[.bool false,.nsl,.bool false,.nsl,.bool false,.nsl]]) ∧ s.heap (nx + 1 + 1 + 1 + 1) = some (2,[[.int .i64 lo.x,.int .i64 lo.y]]) ∧ s.env 12 = .ptr ib 0 0 ∧ s.heap ib = some (2,[[.int .i64 hi.x,.int .i64 hi.y]]) ∧ (nx + 1 + 1 + 1 + 1) < ib ∧ ib < s.nx ∧ s.nt = 181) → K11 s:=by
      clear g2 g3 g5 g6 g11 hU hV hP hQ hL hm hlo lo
      rintro ⟨e,H,mm,nt⟩ ⟨lo,hi,ib,hlo,hhi,g2,g3,g5,g6,g11,hU,hV,hP,hQ,hL,g12,hI,hib,hm,rfl⟩
      simp only [] at g2 g3 g5 g6 g11 g12 hU hV hP hQ hL hI hm
      have hli : l4V u v = if lsS hi lo = true then .tup [.int .i64 0,z3,z3] else if lo = hi then .tup [.int .i64 1,l3A lo.x lo.y 1,z3] else .tup [.int .i64 2,l3A lo.x lo.y 1,l3A hi.x hi.y 1]:=by unfold l4V; rw [hA,hB,if_pos h0,hlo,hhi]
      have pl:=Sp.b (by rw [hlo]; exact low_good gu gv : lo.good = true)
      have ph:=Sp.b (by rw [hhi]; exact high_good gu gv : hi.good = true)
      clear hlo hhi
      refine hK11 _ ?_
      refine .sq fun K12 hK12=>?_
      refine .sq fun K13 hK13=>?_
      refine .region ?_
      refine .kf 2 (l4Less_fc hi lo) hb189 ?_ (by simp (disch:=first|exact zd|fail) [List.take_succ_cons,List.take_zero,g2,g3,g5,g6,g11,hU,hV,hP,hQ,hL,g12,hI]; rfl) (ha:=by simp (disch:=first|exact zd|fail) [idf_Wd',g2,g3,g5,g6,g11,hU,hV,hP,hQ,hL,g12,hI])
      refine .nil ?_
      refine hK13 _ ?_
      refine .c (t:=lsS hi lo) (fun h73=>?_) (fun h73=>?_)
      ·try simp only[dc]at h73
       refine .q ?_ (by simp (disch:=first|exact zd|fail) [g2,g3,g5,g6,g11,hU,hV,hP,hQ,hL]; rfl)
       refine .ret ?_
       exact hK _ _ _ _ trivial ((Fin.mk (by simp (disch:=omega) [aRes,aResL,aRes1,g5,g6]; rfl)).cast (by rw [hli,if_pos h73]; rfl))
      ·try simp only[dc]at h73
       refine .skip ?_
       refine hK12 _ ?_
       refine .sq fun K15 hK15=>?_
       refine .q ?_ (by simp (disch:=first|exact zd|fail) [g2,g3,g5,g6,g11,hU,hV,hP,hQ,hL,g12,hI,eqW2]; rfl)
       refine .c (t:=decide (lo = hi)) (fun h78=>?_) (fun h78=>?_)
       ·try simp only[dc]at h78
        refine .sq fun K17 hK17=>?_
        refine .region ?_
        refine .kf 1 (l3Spot_fc lo.x lo.y (by omega) (by omega) (by omega) (by omega)) hb151 ?_ (by simp (disch:=first|exact zd|fail) [List.take_succ_cons,List.take_zero,g2,g3,g5,g6,g11,hU,hV,hP,hQ,hL]; rfl) (ha:=by simp (disch:=first|exact zd|fail) [idf_Wd',g2,g3,g5,g6,g11,hU,hV,hP,hQ,hL])
        refine .e ?_ (by simp (disch:=first|exact zd|fail) [g2,g3,g5,g6,g11,hU,hV,hP,hQ,hL]; rfl)
        refine hK17 _ ?_
        refine .ret ?_
        exact hK _ _ _ _ trivial ((Fin.mk (by simp (disch:=omega) [aRes,aResL,aRes1,g5,g6]; rfl)).cast (by rw [hli,if_neg (by rw [h73]; simp),if_pos h78]; rfl))
       ·try simp only[dc]at h78
        refine .skip ?_
        refine hK15 _ ?_
        refine .sq fun K18 hK18=>?_
        refine .old fun hold=>?_
        refine .d 4 ?_
        refine .k 1 (fun fs19 hfs19=>?_) (by simp (disch:=first|exact zd|fail) [List.take_succ_cons,List.take_zero,g2,g3,g5,g6,g11,hU,hV,hP,hQ,hL,g12,hI]; rfl)
        refine .f (l3Spot_fc lo.x lo.y (by omega) (by omega) (by omega) (by omega)) hb151 ?_ (ha:=by simp (disch:=first|exact zd|fail) [idf_Wd',g2,g3,g5,g6,g11,hU,hV,hP,hQ,hL,g12,hI])
        refine DP.runF1q (by simp (disch:=first|exact zd|fail) [g2,g3,g5,g6,g11,hU,hV,hP,hQ,hL,g12,hI]; rfl) fun fq20 hfq20=>?_
        simp [qids,asksB,Op.operands,topId] at hfq20
        simp only [updo]
        refine .f (l3Spot_fc hi.x hi.y (by omega) (by omega) (by omega) (by omega)) hb151 ?_ (ha:=by simp (disch:=first|exact zd|fail) [idf_Wd',g2,g3,g5,g6,g11,hU,hV,hP,hQ,hL,g12,hI])
        refine DQ.asg1 _ rfl rfl ?_
        simp only [updo]
        refine DQ.sto1 (m:=4) [2,3] _ (by simp (disch:=first|exact zd|fail) [g2,g3,g5,g6,g11,hU,hV,hP,hQ,hL,g12,hI]; rfl) rfl (by simp only[ln,hfs19];omega) (by kernel_rfl) (by intro k f hk hex; simp only [List.mem_cons,List.not_mem_nil,or_false] at hex; rcases hex with rfl | rfl <;> (simp [List.getElem?_append,hfs19] at hk; subst hk; refine ⟨?_,by first | omega | (simp; done) | (simp; omega)⟩; simp [qids,asksB,Op.operands,Call.operands,topId,numS,numI,Wd,hfq20,g2,g3,g5,g6,g11,g12]; try omega)) ?_
        try simp only []
        refine DQ.sto1 (m:=4) [] _ (by simp (disch:=first|exact zd|fail) [g2,g3,g5,g6,g11,hU,hV,hP,hQ,hL,g12,hI]; rfl) rfl (by simp only[ln,hfs19];omega) (by kernel_rfl) (by intro k f hk hex; simp only [List.not_mem_nil] at hex) ?_
        try simp only []
        refine hK18 _ ?_
        refine .ret ?_
        exact hK _ _ _ _ trivial ((Fin.mk (by simp (disch:=omega) [aRes,aResL,aRes1,g5,g6]; rfl)).cast (by rw [hli,if_neg (by rw [h73]; simp),if_neg h78]; rfl))
     refine .sq fun K21 hK21=>?_
     refine .region ?_
     refine .kf 3 (l4Less_fc v.b u.b) hb189 ?_ (by simp (disch:=first|exact zd|fail) [List.take_succ_cons,List.take_zero,g2,g3,g5,g6,g11,hU,hV,hP,hQ,hL]; rfl) (ha:=by simp (disch:=first|exact zd|fail) [idf_Wd',g2,g3,g5,g6,g11,hU,hV,hP,hQ,hL])
     refine .nil ?_
     refine hK21 _ ?_
     refine .c (t:=lsS v.b u.b) (fun h68=>?_) (fun h68=>?_)
     ·try simp only[dc]at h68
      refine .r ?_ (by simp (disch:=first|exact zd|fail) [g2,g3,g5,g6,g11,hU,hV,hP,hQ,hL]; rfl)
      refine J11 _ ?_
      exact ⟨lo,v.b,mm,hlo,by unfold highS; rw [if_pos h68],by simp [g2,g3,g5,g6,g11],by simp [g2,g3,g5,g6,g11],by simp [g2,g3,g5,g6,g11],by simp [g2,g3,g5,g6,g11],by simp [g2,g3,g5,g6,g11],by simp (disch:=omega) [hU,hV,hP,hQ,hL],by simp (disch:=omega) [hU,hV,hP,hQ,hL],by simp (disch:=omega) [hU,hV,hP,hQ,hL],by simp (disch:=omega) [hU,hV,hP,hQ,hL],by simp (disch:=omega) [hU,hV,hP,hQ,hL],by simp,by simp (disch:=omega),by omega,by first | omega | (simp; done) | (simp; omega),rfl⟩
     ·try simp only[dc]at h68
      refine .skip ?_
      refine J11 _ ?_
      exact ⟨lo,u.b,mm,hlo,by unfold highS; rw [h68]; rfl,by simp [g2,g3,g5,g6,g11],by simp [g2,g3,g5,g6,g11],by simp [g2,g3,g5,g6,g11],by simp [g2,g3,g5,g6,g11],by simp [g2,g3,g5,g6,g11],by simp (disch:=omega) [hU,hV,hP,hQ,hL],by simp (disch:=omega) [hU,hV,hP,hQ,hL],by simp (disch:=omega) [hU,hV,hP,hQ,hL],by simp (disch:=omega) [hU,hV,hP,hQ,hL],by simp (disch:=omega) [hU,hV,hP,hQ,hL],by simp,by simp (disch:=omega),by omega,by first | omega | (simp; done) | (simp; omega),rfl⟩
    refine .sq fun K22 hK22=>?_
    refine .region ?_
    refine .kf 3 (l4Less_fc u.a v.a) hb189 ?_
    refine .nil ?_
    refine hK22 _ ?_
    refine .c (t:=lsS u.a v.a) (fun h60=>?_) (fun h60=>?_)
    ·try simp only[dc]at h60
     refine .r ?_
     refine J9 _ ?_
     exact ⟨v.a,by unfold lowS; rw [if_pos h60],by simp,by simp,by simp,by simp,by simp,by simp (disch:=omega),by simp (disch:=omega),by simp (disch:=omega),by simp (disch:=omega),by simp (disch:=omega),by first | omega | (simp; done) | (simp; omega),rfl⟩
    ·try simp only[dc]at h60
     refine .skip ?_
     refine J9 _ ?_
     exact ⟨u.a,by unfold lowS; rw [h60]; rfl,by simp,by simp,by simp,by simp,by simp,by simp (disch:=omega),by simp (disch:=omega),by simp (disch:=omega),by simp (disch:=omega),by simp (disch:=omega),by first | omega | (simp; done) | (simp; omega),rfl⟩
   ·simp at h54
  ·have c2:=sg1 hB0
   have h0 : ¬ (A = 0 ∧ B = 0):=fun h=>hB0 h.2
   refine .r ?_ (by simp (disch:=first|exact zd|fail) [c1,c2]; rfl)
   refine hK7 _ ?_
   refine .c (fun h54=>?_) (fun h54=>?_)
   ·simp at h54
   ·try simp only[dc]at h54
    refine .skip ?_
    refine hK6 _ ?_
    refine .sq fun K23 hK23=>?_
    refine .sq fun K24 hK24=>?_
    cases q3 : decide (0 < sg3 A * sg3 B)
    ·refine .r ?_ (by simp (disch:=first|exact zd|fail) [q3]; rfl)
     refine hK24 _ ?_
     refine .c (t:=decide (0 < sg3 C * sg3 D)) (fun h95=>?_) (fun h95=>?_)
     ·try simp only[dc]at h95
      have hw : noWay u v = true:=by rw [hnw,q3]; simp [h95]
      refine .q ?_
      refine .ret ?_
      exact hK _ _ _ _ trivial ((Fin.m).cast (by unfold l4V; rw [hA,hB,if_neg h0,if_pos hw]; try rfl))
     ·try simp only[dc]at h95
      have hw : ¬ noWay u v = true:=by rw [hnw,q3]; simp; omega
      have m1:=mul_b (u:=u.b.x - u.a.x) (v:=v.b.y - v.a.y) (m:=2000000) (n:=2000000) (by omega) (by omega) (by omega) (by omega) (by omega)
      have m2:=mul_b (u:=u.b.y - u.a.y) (v:=v.b.x - v.a.x) (m:=2000000) (n:=2000000) (by omega) (by omega) (by omega) (by omega) (by omega)
      have m3:=mul_b (u:=v.a.x - u.a.x) (v:=v.b.y - v.a.y) (m:=2000000) (n:=2000000) (by omega) (by omega) (by omega) (by omega) (by omega)
      have m4:=mul_b (u:=v.a.y - u.a.y) (v:=v.b.x - v.a.x) (m:=2000000) (n:=2000000) (by omega) (by omega) (by omega) (by omega) (by omega)
      have hdn:=den_ne gu gv (by rw [hA,hB]; exact h0) hw
      have eD : denS u v = (u.b.x - u.a.x) * (v.b.y - v.a.y) - (u.b.y - u.a.y) * (v.b.x - v.a.x):=rfl
      have eN : numT u v = (v.a.x - u.a.x) * (v.b.y - v.a.y) - (v.a.y - u.a.y) * (v.b.x - v.a.x):=rfl
      have b1 : Bg 1 u.a.x:=Bg.i64 (by omega) (by omega)
      have b2 : Bg 1 u.a.y:=Bg.i64 (by omega) (by omega)
      have b3 : Bg 1 (denS u v):=Bg.i64 (by rw [eD]; omega) (by rw [eD]; omega)
      have b4 : Bg 1 (numT u v):=Bg.i64 (by rw [eN]; omega) (by rw [eN]; omega)
      have b5 : Bg 1 (u.b.x - u.a.x):=Bg.i64 (by omega) (by omega)
      have b6 : Bg 1 (u.b.y - u.a.y):=Bg.i64 (by omega) (by omega)
      have i1:=l1Int_fc (denS u v) (by rw [eD]; omega) (by rw [eD]; omega)
      have i2:=l1Int_fc (numT u v) (by rw [eN]; omega) (by rw [eN]; omega)
      rw [eD] at i1
      rw [eN] at i2
      have x1:=l1Mul_fc b1 b3 (by omega) (by omega)
      have x2:=l1Mul_fc b5 b4 (by omega) (by omega)
      have x3:=l1Add_fc (b1.mul b3) (b5.mul b4) (by omega) (by omega)
      have y1:=l1Mul_fc b2 b3 (by omega) (by omega)
      have y2:=l1Mul_fc b6 b4 (by omega) (by omega)
      have y3:=l1Add_fc (b2.mul b3) (b6.mul b4) (by omega) (by omega)
      have l3:=l3Make_fc (j:=3) (wayX2 u v) (wayY2 u v) (denS u v) hdn (((b1.mul b3).add (b5.mul b4)).le (by omega)) (((b2.mul b3).add (b6.mul b4)).le (by omega)) (b3.le (by omega)) (by omega) (by omega)
      unfold wayX2 wayY2 at l3
      rw [eD] at x1 x3 y1 y3
      rw [eN] at x2 x3 y2 y3
      simp only [eD,eN] at l3
      have eV : l3A (nX u v) (nY u v) (nW u v) = l3A (nX u v) (nY u v) (nW u v):=rfl
      unfold nX nY nW wayX2 wayY2 at eV
      simp only [eD,eN] at eV
      have hl4 : l4V u v = .tup [.int .i64 1,l3A (nX u v) (nY u v) (nW u v),z3]:=by unfold l4V; rw [hA,hB,if_neg h0,if_neg hw]
      unfold nX nY nW wayX2 wayY2 at hl4
      simp only [eD,eN] at hl4
      clear b3 b4 eV
      refine .skip ?_
      refine hK23 _ ?_
      refine .q ?_
      refine .q ?_
      refine .q ?_
      refine .q ?_
      refine .sq fun K30 hK30=>?_
      refine .region ?_
      refine .kf 7 i1 hb134 ?_
      refine .e ?_
      refine hK30 _ ?_
      refine .sq fun K31 hK31=>?_
      refine .region ?_
      refine .kf 19 i2 hb134 ?_
      refine .e ?_
      refine hK31 _ ?_
      refine .sq fun K32 hK32=>?_
      refine .d 12 ?_
      refine .k 3 (fun fs33 hfs33=>?_)
      refine .f (l1Int_fc u.a.x (by omega) (by omega)) hb134 ?_
      refine .k 1 (fun fs34 hfs34=>?_)
      refine .f x1 hb165 ?_
      refine .k 1 (fun fs35 hfs35=>?_)
      refine .f (l1Int_fc (u.b.x - u.a.x) (by omega) (by omega)) hb134 ?_
      refine .k 1 (fun fs36 hfs36=>?_)
      refine .f x2 hb165 ?_
      refine .f x3 hb167 ?_
      refine .k 1 (fun fs37 hfs37=>?_)
      refine .r 12 (by simp only[ln,hfs33,hfs34,hfs35,hfs36,hfs37];omega) ?_
      refine hK32 _ ?_
      refine .sq fun K38 hK38=>?_
      refine .d 12 ?_
      refine .k 3 (fun fs39 hfs39=>?_)
      refine .f (l1Int_fc u.a.y (by omega) (by omega)) hb134 ?_
      refine .k 1 (fun fs40 hfs40=>?_)
      refine .f y1 hb165 ?_
      refine .k 1 (fun fs41 hfs41=>?_)
      refine .f (l1Int_fc (u.b.y - u.a.y) (by omega) (by omega)) hb134 ?_
      refine .k 1 (fun fs42 hfs42=>?_)
      refine .f y2 hb165 ?_
      refine .f y3 hb167 ?_
      refine .k 1 (fun fs43 hfs43=>?_)
      refine .r 12 (by simp only[ln,hfs39,hfs40,hfs41,hfs42,hfs43];omega) ?_
      refine hK38 _ ?_
      refine .sq fun K44 hK44=>?_
      refine .region ?_
      refine .kf 3 l3 hb191 ?_
      refine .e ?_
      refine hK44 _ ?_
      refine .ret ?_
      exact hK _ _ _ _ trivial ((Fin.m).cast (by rw [hl4]; rfl))
    ·refine .r ?_ (by simp (disch:=first|exact zd|fail) [q3]; rfl)
     refine hK24 _ ?_
     refine .c (fun h95=>?_) (fun h95=>?_)
     ·try simp only[dc]at h95
      have hw : noWay u v = true:=by rw [hnw,q3]; rfl
      refine .q ?_
      refine .ret ?_
      exact hK _ _ _ _ trivial ((Fin.m).cast (by unfold l4V; rw [hA,hB,if_neg h0,if_pos hw]; try rfl))
     ·simp at h95
 ·have c1:=sg1 hA0
  have h0 : ¬ (A = 0 ∧ B = 0):=fun h=>hA0 h.1
  refine .r ?_ (by simp (disch:=first|exact zd|fail) [c1]; rfl)
  refine hK7 _ ?_
  refine .c (fun h54=>?_) (fun h54=>?_)
  ·simp at h54
  ·try simp only[dc]at h54
   refine .skip ?_
   refine hK6 _ ?_
   refine .sq fun K46 hK46=>?_
   refine .sq fun K47 hK47=>?_
   cases q3 : decide (0 < sg3 A * sg3 B)
   ·refine .r ?_ (by simp (disch:=first|exact zd|fail) [q3]; rfl)
    refine hK47 _ ?_
    refine .c (t:=decide (0 < sg3 C * sg3 D)) (fun h95=>?_) (fun h95=>?_)
    ·try simp only[dc]at h95
     have hw : noWay u v = true:=by rw [hnw,q3]; simp [h95]
     refine .q ?_
     refine .ret ?_
     exact hK _ _ _ _ trivial ((Fin.m).cast (by unfold l4V; rw [hA,hB,if_neg h0,if_pos hw]; try rfl))
    ·try simp only[dc]at h95
     have hw : ¬ noWay u v = true:=by rw [hnw,q3]; simp; omega
     have m1:=mul_b (u:=u.b.x - u.a.x) (v:=v.b.y - v.a.y) (m:=2000000) (n:=2000000) (by omega) (by omega) (by omega) (by omega) (by omega)
     have m2:=mul_b (u:=u.b.y - u.a.y) (v:=v.b.x - v.a.x) (m:=2000000) (n:=2000000) (by omega) (by omega) (by omega) (by omega) (by omega)
     have m3:=mul_b (u:=v.a.x - u.a.x) (v:=v.b.y - v.a.y) (m:=2000000) (n:=2000000) (by omega) (by omega) (by omega) (by omega) (by omega)
     have m4:=mul_b (u:=v.a.y - u.a.y) (v:=v.b.x - v.a.x) (m:=2000000) (n:=2000000) (by omega) (by omega) (by omega) (by omega) (by omega)
     have hdn:=den_ne gu gv (by rw [hA,hB]; exact h0) hw
     have eD : denS u v = (u.b.x - u.a.x) * (v.b.y - v.a.y) - (u.b.y - u.a.y) * (v.b.x - v.a.x):=rfl
     have eN : numT u v = (v.a.x - u.a.x) * (v.b.y - v.a.y) - (v.a.y - u.a.y) * (v.b.x - v.a.x):=rfl
     have b1 : Bg 1 u.a.x:=Bg.i64 (by omega) (by omega)
     have b2 : Bg 1 u.a.y:=Bg.i64 (by omega) (by omega)
     have b3 : Bg 1 (denS u v):=Bg.i64 (by rw [eD]; omega) (by rw [eD]; omega)
     have b4 : Bg 1 (numT u v):=Bg.i64 (by rw [eN]; omega) (by rw [eN]; omega)
     have b5 : Bg 1 (u.b.x - u.a.x):=Bg.i64 (by omega) (by omega)
     have b6 : Bg 1 (u.b.y - u.a.y):=Bg.i64 (by omega) (by omega)
     have i1:=l1Int_fc (denS u v) (by rw [eD]; omega) (by rw [eD]; omega)
     have i2:=l1Int_fc (numT u v) (by rw [eN]; omega) (by rw [eN]; omega)
     rw [eD] at i1
     rw [eN] at i2
     have x1:=l1Mul_fc b1 b3 (by omega) (by omega)
     have x2:=l1Mul_fc b5 b4 (by omega) (by omega)
     have x3:=l1Add_fc (b1.mul b3) (b5.mul b4) (by omega) (by omega)
     have y1:=l1Mul_fc b2 b3 (by omega) (by omega)
     have y2:=l1Mul_fc b6 b4 (by omega) (by omega)
     have y3:=l1Add_fc (b2.mul b3) (b6.mul b4) (by omega) (by omega)
     have l3:=l3Make_fc (j:=3) (wayX2 u v) (wayY2 u v) (denS u v) hdn (((b1.mul b3).add (b5.mul b4)).le (by omega)) (((b2.mul b3).add (b6.mul b4)).le (by omega)) (b3.le (by omega)) (by omega) (by omega)
     unfold wayX2 wayY2 at l3
     rw [eD] at x1 x3 y1 y3
     rw [eN] at x2 x3 y2 y3
     simp only [eD,eN] at l3
     have eV : l3A (nX u v) (nY u v) (nW u v) = l3A (nX u v) (nY u v) (nW u v):=rfl
     unfold nX nY nW wayX2 wayY2 at eV
     simp only [eD,eN] at eV
     have hl4 : l4V u v = .tup [.int .i64 1,l3A (nX u v) (nY u v) (nW u v),z3]:=by unfold l4V; rw [hA,hB,if_neg h0,if_neg hw]
     unfold nX nY nW wayX2 wayY2 at hl4
     simp only [eD,eN] at hl4
     clear b3 b4 eV
     refine .skip ?_
     refine hK46 _ ?_
     refine .q ?_
     refine .q ?_
     refine .q ?_
     refine .q ?_
     refine .sq fun K53 hK53=>?_
     refine .region ?_
     refine .kf 7 i1 hb134 ?_
     refine .e ?_
     refine hK53 _ ?_
     refine .sq fun K54 hK54=>?_
     refine .region ?_
     refine .kf 19 i2 hb134 ?_
     refine .e ?_
     refine hK54 _ ?_
     refine .sq fun K55 hK55=>?_
     refine .d 12 ?_
     refine .k 3 (fun fs56 hfs56=>?_)
     refine .f (l1Int_fc u.a.x (by omega) (by omega)) hb134 ?_
     refine .k 1 (fun fs57 hfs57=>?_)
     refine .f x1 hb165 ?_
     refine .k 1 (fun fs58 hfs58=>?_)
     refine .f (l1Int_fc (u.b.x - u.a.x) (by omega) (by omega)) hb134 ?_
     refine .k 1 (fun fs59 hfs59=>?_)
     refine .f x2 hb165 ?_
     refine .f x3 hb167 ?_
     refine .k 1 (fun fs60 hfs60=>?_)
     refine .r 12 (by simp only[ln,hfs56,hfs57,hfs58,hfs59,hfs60];omega) ?_
     refine hK55 _ ?_
     refine .sq fun K61 hK61=>?_
     refine .d 12 ?_
     refine .k 3 (fun fs62 hfs62=>?_)
     refine .f (l1Int_fc u.a.y (by omega) (by omega)) hb134 ?_
     refine .k 1 (fun fs63 hfs63=>?_)
     refine .f y1 hb165 ?_
     refine .k 1 (fun fs64 hfs64=>?_)
     refine .f (l1Int_fc (u.b.y - u.a.y) (by omega) (by omega)) hb134 ?_
     refine .k 1 (fun fs65 hfs65=>?_)
     refine .f y2 hb165 ?_
     refine .f y3 hb167 ?_
     refine .k 1 (fun fs66 hfs66=>?_)
     refine .r 12 (by simp only[ln,hfs62,hfs63,hfs64,hfs65,hfs66];omega) ?_
     refine hK61 _ ?_
     refine .sq fun K67 hK67=>?_
     refine .region ?_
     refine .kf 3 l3 hb191 ?_
     refine .e ?_
     refine hK67 _ ?_
     refine .ret ?_
     exact hK _ _ _ _ trivial ((Fin.m).cast (by rw [hl4]; rfl))
   ·refine .r ?_ (by simp (disch:=first|exact zd|fail) [q3]; rfl)
    refine hK47 _ ?_
    refine .c (fun h95=>?_) (fun h95=>?_)
    ·try simp only[dc]at h95
     have hw : noWay u v = true:=by rw [hnw,q3]; rfl
     refine .q ?_
     refine .ret ?_
     exact hK _ _ _ _ trivial ((Fin.m).cast (by unfold l4V; rw [hA,hB,if_neg h0,if_pos hw]; try rfl))
    ·simp at h95
end

end Go.Proofs.YtjbbbkfdcegfmaaGreat

/- Walks: rings, by the reference. -/
namespace Go.Proofs.YtjbbbkfdcegfmaaGreat
open Go Go.RowKit
set_option linter.unusedSimpArgs false
set_option linter.unusedVariables false
set_option maxRecDepth 100000


theorem l4V_k {u v : Sg} (gu : u.good = true) (gv : v.good = true) : ∃ (b1 b2 b3 c1 c2 c3 : Bool) (s1 s2 s3 t1 t2 t3 : AV),l4V u v = .tup [.int .i64 (meetI u v).1,.agg [.bool b1,s1,.bool b2,s2,.bool b3,s3],.agg [.bool c1,t1,.bool c2,t2,.bool c3,t3]] ∧ avOne s1 = true ∧ avOne s2 = true ∧ avOne s3 = true ∧ avOne t1 = true ∧ avOne t2 = true ∧ avOne t3 = true:=by
  have e:=meet_eq gu gv
  rw [e]
  unfold l4V meetS linP z3 l3A l3C
  have ow : ∀ x,avOne (Wd .u32 (dg x)) = true:=fun x=>rfl
  have on : avOne .nsl = true:=rfl
  by_cases h0 : crs u.a u.b v.a = 0 ∧ crs u.a u.b v.b = 0
  · rw [if_pos h0,if_pos h0]
    by_cases h1 : lsS (highS u v) (lowS u v) = true
    · rw [if_pos h1,if_pos h1]; exact ⟨_,_,_,_,_,_,_,_,_,_,_,_,rfl,on,on,on,on,on,on⟩
    · rw [if_neg h1,if_neg h1]
      by_cases h2 : lowS u v = highS u v
      · rw [if_pos h2,if_pos h2]; exact ⟨_,_,_,_,_,_,_,_,_,_,_,_,rfl,ow _,ow _,ow _,on,on,on⟩
      · rw [if_neg h2,if_neg h2]; exact ⟨_,_,_,_,_,_,_,_,_,_,_,_,rfl,ow _,ow _,ow _,ow _,ow _,ow _⟩
  · rw [if_neg h0,if_neg h0]
    by_cases h1 : noWay u v = true
    · rw [if_pos h1,if_pos h1]; exact ⟨_,_,_,_,_,_,_,_,_,_,_,_,rfl,on,on,on,on,on,on⟩
    · rw [if_neg h1,if_neg h1]; exact ⟨_,_,_,_,_,_,_,_,_,_,_,_,rfl,ow _,ow _,ow _,on,on,on⟩



end Go.Proofs.YtjbbbkfdcegfmaaGreat

/- Walks: FnExactRingFault, FnExactRingArea2, FnExactRingsMeet, walked. -/
namespace Go.Proofs.YtjbbbkfdcegfmaaGreat
open Go Go.RowKit
set_option linter.unusedSimpArgs false
set_option linter.unusedVariables false
set_option maxRecDepth 100000
attribute [local simp] szT2 byT2 agT2 unT2 zoT2 szT83 byT83 agT83 flT83 fdT83_0 fdT83_1 zoT83

def szN (len : Nat) (n : Int) : Int:=if n - len < 0 then -1 else n - len
theorem szN_le {k : Nat} {n : Int} (h : ¬ szN k n < 0) : (k : Int) ≤ n ∧ szN k n = n - k:=by unfold szN at *; split at h <;> simp_all; omega

section
attribute [local simp] Sp.av Sp.cells Sg.av Sg.cells
theorem eqSpot_fc (p : Sp) : FC Tryz.prog 111 [p.av,p.av] (.bool true):=by
 refine .b Tryz.func111 15 (fun nx K hK=>?_) (hi:=by simp [idfL,idf,idfLL_iff,Sp.av,Sp.cells,Sg.av,Sg.cells])
 refine .q ?_
 refine .sq fun K2 hK2=>?_
 refine .q ?_
 refine .c (fun h9=>?_) (fun h9=>?_)
 ·simp at h9
 ·try simp only[dc]at h9
  refine .skip ?_
  refine hK2 _ ?_
  refine .sq fun K4 hK4=>?_
  refine .q ?_
  refine .c (fun h14=>?_) (fun h14=>?_)
  ·simp at h14
  ·try simp only[dc]at h14
   refine .skip ?_
   refine hK4 _ ?_
   refine .q ?_
   refine .ret ?_
   exact hK _ _ _ _ trivial ((Fin.m))
end

end Go.Proofs.YtjbbbkfdcegfmaaGreat
