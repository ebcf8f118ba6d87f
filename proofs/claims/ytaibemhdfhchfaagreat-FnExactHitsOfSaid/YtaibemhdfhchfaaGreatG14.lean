/- Walks: the reference's products. -/
import Derived.Test.YtaibemhdfhchfaaGreatG13

namespace Go.Proofs.YtaibemhdfhchfaaGreat
open Go Go.RowKit
set_option linter.unusedSimpArgs false
set_option linter.unusedVariables false
set_option maxRecDepth 100000
attribute [local simp] szT2 byT2 agT2 unT2 zoT2 szT3 byT3 agT3 unT3 zoT3 szT4 byT4 agT4 unT4 zoT4 szT25 byT25 agT25 unT25 zoT25 szT125 byT125 agT125 elT125 unT125 zoT125 szT127 byT127 agT127 flT127 fdT127_0 fdT127_1 zoT127 szT271 byT271 agT271 unT271 zoT271

/-- The variables of 'l1Mul'. -/
def heapS (nx : Nat) (a b : Int) : Heap:=hupd (hupd (hupd (fun _=>none) nx (some (2,[[.bool (decide (a < 0)),Wd .u32 (dg a)]]))) (nx + 1) (some (2,[[.bool (decide (b < 0)),Wd .u32 (dg b)]]))) (nx + 1 + 1) (some (2,[[.bool false,.nsl]]))
theorem mul_step32 {x y o c : Int} (hx : 0 ≤ x ∧ x < 4294967296) (hy : 0 ≤ y ∧ y < 4294967296) (ho : 0 ≤ o ∧ o < 4294967296) (hc : 0 ≤ c ∧ c < 4294967296) :
    0 ≤ x * y ∧ x * y ≤ 18446744065119617025 ∧ 0 ≤ (c + x * y + o) / 4294967296 ∧ (c + x * y + o) / 4294967296 < 4294967296 ∧ (c + x * y + o) % 4294967296 + 4294967296 * ((c + x * y + o) / 4294967296) = x * y + o + c:=by
  have h:=prod_bound x y hx.1 (by omega) hy.1 (by omega)
  generalize x * y = p at *
  omega
theorem sg_mulS (a b : Int) : numS (sg (!(decide (a < 0) == decide (b < 0))) ((a.natAbs : Int) * (b.natAbs : Int))) = numS (a * b):=by
  congr 1
  rw [← Int.natCast_mul,← Int.natAbs_mul]
  by_cases ha : a < 0 <;> by_cases hb : b < 0
  · have:=Int.mul_nonneg (show 0 ≤ -a by omega) (show 0 ≤ -b by omega)
    rw [Int.neg_mul_neg] at this
    simp [sg,ha,hb]; omega
  · have:=Int.mul_nonneg (show 0 ≤ -a by omega) (show 0 ≤ b by omega)
    rw [Int.neg_mul] at this
    simp [sg,ha,hb]; omega
  · have:=Int.mul_nonneg (show 0 ≤ a by omega) (show 0 ≤ -b by omega)
    rw [Int.mul_neg] at this
    simp [sg,ha,hb]; omega
  · have:=Int.mul_nonneg (show 0 ≤ a by omega) (show 0 ≤ b by omega)
    simp [sg,ha,hb]; omega

section
attribute [local simp] idf_numS cells_numS numS_fold
set_option maxHeartbeats 1000000 in
theorem l1Mul_fc {j k : Nat} {a b : Int} (ha : Bg j a) (hb : Bg k b) (hj : j ≤ 68719476736) (hk : k ≤ 68719476736) : FC Tryz.prog 182 [numS a,numS b] (numS (a * b)):=by
 have la : (dg a).length ≤ 137438953472:=by have:=ha.len32; omega
 have lb : (dg b).length ≤ 137438953472:=by have:=hb.len32; omega
 have da:=dg_dig a
 have db:=dg_dig b
 refine .b Tryz.func182 90 (fun nx K hK=>?_)
 refine .q ?_
 refine .sq fun K2 hK2=>?_
 refine .sq fun K3 hK3=>?_
 by_cases ha0 : dg a = []
 ·refine .r ?_ (by simp (disch:=first|omega|(simp only[ln];omega)) [len_Wd (P:=Tryz.prog) #[125] rfl elT125,ha0]; rfl)
  refine hK3 _ ?_
  refine .c (fun h18=>?_) (fun h18=>?_)
  ·try simp only[dc]at h18
   refine .q ?_
   refine .ret ?_
   exact hK _ _ _ _ trivial ((Fin.mk (r:=.agg [.bool false,.nsl]) (by simp [aRes,aResL,aRes1])).weak (by rw [dg_nil.mp ha0,Int.zero_mul]; exact fun _ _ _ _=>nS0_weak))
  ·simp at h18
 ·have ea : (((dg a).length : Int) == 0) = false:=beq_eq_false_iff_ne.mpr (by have:=List.length_pos_iff.mpr ha0; omega)
  by_cases hb0 : dg b = []
  ·refine .r ?_ (by simp (disch:=first|omega|(simp only[ln];omega)) [len_Wd (P:=Tryz.prog) #[125] rfl elT125,ea,hb0]; rfl)
   refine hK3 _ ?_
   refine .c (fun h18=>?_) (fun h18=>?_)
   ·try simp only[dc]at h18
    refine .q ?_
    refine .ret ?_
    exact hK _ _ _ _ trivial ((Fin.mk (r:=.agg [.bool false,.nsl]) (by simp [aRes,aResL,aRes1])).weak (by rw [dg_nil.mp hb0,Int.mul_zero]; exact fun _ _ _ _=>nS0_weak))
   ·simp at h18
  ·have eb : (((dg b).length : Int) == 0) = false:=beq_eq_false_iff_ne.mpr (by have:=List.length_pos_iff.mpr hb0; omega)
   refine .r ?_ (by simp (disch:=first|omega|(simp only[ln];omega)) [len_Wd (P:=Tryz.prog) #[125] rfl elT125,ea,eb]; rfl)
   refine hK3 _ ?_
   refine .c (fun h18=>?_) (fun h18=>?_)
   ·simp at h18
   ·try simp only[dc]at h18
    refine .skip ?_
    refine hK2 _ ?_
    refine .q ?_ (by simp (disch:=first|omega|(simp only[ln];omega)) [if_pos,len_Wd (P:=Tryz.prog) #[125] rfl elT125]; rfl)
    refine .sq fun K7 hK7=>?_
    refine .q ?_
    refine .block ?_
    refine .loop (fun n s=>∃ i out,n = (dg a).length - i ∧ i ≤ (dg a).length ∧ out.length = (dg a).length + (dg b).length ∧ Dig 4294967296 out ∧ val 4294967296 out = val 4294967296 ((dg a).take i) * val 4294967296 (dg b) ∧ (∀ q,i + (dg b).length ≤ q → gt out q = 0) ∧ s.env 2 = .ptr nx 0 0 ∧ s.env 3 = .ptr (nx + 1) 0 0 ∧ s.env 4 = .ptr (nx + 1 + 1) 0 0 ∧ s.env 5 = .osl (nx + 1 + 1 + 1) 0 ((dg a).length + (dg b).length) ∧ s.env 6 = .int .i64 (i : Int) ∧ s.heap = hupd (heapS nx a b) (nx + 1 + 1 + 1) (some (1,wd .u32 out)) ∧ s.nt = 90) ((dg a).length) (⟨0,List.replicate ((dg a).length + (dg b).length) 0,by omega,by omega,by simp,Dig.replicate _ (by omega) (by omega),by simp [val,val_replicate],by intro q _; simp [gt,List.getElem?_replicate]; split <;> rfl,by simp,by simp,by simp,by simp; omega,by simp,by simp [heapS]; rfl,rfl⟩) ?_
    rintro n ⟨e,H,nx2,nt⟩ ⟨i,out,rfl,hi,ho,hd,hval,hz,h2,h3,h4,h5,h6,rfl,rfl⟩
    simp only [] at h2 h3 h4 h5 h6
    refine .sq fun K9 hK9=>?_
    refine .q ?_ (by simp (disch:=first|omega|(simp only[ln];omega)) [len_Wd (P:=Tryz.prog) #[125] rfl elT125,h2,h6,heapS]; rfl)
    refine .c (fun h32=>?_) (fun h32=>?_)
    ·try simp only[dc]at h32
     have hi' : i < (dg a).length:=by omega
     refine .skip ?_
     refine hK9 _ ?_
     refine .sq fun K11 hK11=>?_
     refine .block ?_
     refine .q ?_
     refine .sq fun K13 hK13=>?_
     refine .q ?_
     refine .block ?_
     refine .loop (fun n s=>∃ q out2 c,n = (dg b).length - q ∧ q ≤ (dg b).length ∧ out2.length = (dg a).length + (dg b).length ∧ Dig 4294967296 out2 ∧ 0 ≤ c ∧ c < 4294967296 ∧ val 4294967296 out2 + c * (4294967296 : Int) ^ (i + q) = val 4294967296 ((dg a).take i) * val 4294967296 (dg b) + (4294967296 : Int) ^ i * gt (dg a) i * val 4294967296 ((dg b).take q) ∧ (∀ j,i + (dg b).length ≤ j → gt out2 j = 0) ∧ s.env 2 = .ptr nx 0 0 ∧ s.env 3 = .ptr (nx + 1) 0 0 ∧ s.env 4 = .ptr (nx + 1 + 1) 0 0 ∧ s.env 5 = .osl (nx + 1 + 1 + 1) 0 ((dg a).length + (dg b).length) ∧ s.env 6 = .int .i64 (i : Int) ∧ s.env 7 = .int .u64 c ∧ s.env 8 = .int .i64 (q : Int) ∧ s.heap = hupd (heapS nx a b) (nx + 1 + 1 + 1) (some (1,wd .u32 out2)) ∧ s.nt = 90) ((dg b).length) (⟨0,out,0,by omega,by omega,ho,hd,by omega,by omega,by simp [val,hval],hz,by simp [h2],by simp [h3],by simp [h4],by simp [h5],by simp [h6],by simp,by simp,by simp [heapS],rfl⟩) ?_
     clear h2 h3 h4 h5 h6
     rintro n ⟨e,H,nx2,nt⟩ ⟨q,out2,c,rfl,hq,ho2,hd2,hc0,hc1,hval2,hz2,h2,h3,h4,h5,h6,h7,h8,rfl,rfl⟩
     simp only [] at h2 h3 h4 h5 h6 h7 h8
     refine .sq fun K15 hK15=>?_
     refine .q ?_ (by simp (disch:=first|omega|(simp only[ln];omega)) [len_Wd (P:=Tryz.prog) #[125] rfl elT125,h3,h8,heapS]; rfl)
     refine .c (fun h39=>?_) (fun h39=>?_)
     ·try simp only[dc]at h39
      have hq' : q < (dg b).length:=by omega
      have hgx:=da.gt (by omega) i
      have hgy:=db.gt (by omega) q
      have hgo:=hd2.gt (by omega) (i + q)
      have hms:=mul_step32 hgx hgy hgo ⟨hc0,hc1⟩
      have hpr0:=hms.1
      have hpr1:=hms.2.1
      have hiq : ((i : Int) + (q : Int)).toNat = i + q:=by omega
      refine .skip ?_
      refine hK15 _ ?_
      refine .sq fun K17 hK17=>?_
      refine .block ?_
      refine .sq fun K18 hK18=>?_
      refine .df 23 ?_ (by simp (disch:=first|omega|(simp only[ln];omega)) [runDf.eq_def,runF1,runF2,stepF.eq_def,updo.eq_def,hupo.eq_def,opSto1.eq_def,idx_WdD (P:=Tryz.prog) elT125 szT271,if_pos,h2,h3,h5,h6,h7,h8,heapS,hiq,ho2,ld_ip agT271]; rfl)
      refine hK18 _ ?_
      refine .q ?_ (by simp (disch:=first|omega|(simp only[ln];omega)) [idx_WdD (P:=Tryz.prog) elT125 szT271,if_pos,h5,h6,h8,heapS,hiq,ho2,wrap_u32m]; rfl)
      refine .r ?_ (by simp (disch:=first|omega|(simp only[ln];omega)) [IntKind.bits,Int.fdiv_eq_ediv_of_nonneg]; rfl)
      refine hK17 _ ?_
      refine .r ?_ (by simp (disch:=first|omega|(simp only[ln];omega)) [h8]; rfl)
      have hp1 : (4294967296 : Int) ^ (i + (q + 1)) = (4294967296 : Int) ^ i * (4294967296 : Int) ^ q * 4294967296:=by rw [← Nat.add_assoc,Int.pow_succ,Int.pow_add]
      have hp2 : (4294967296 : Int) ^ (i + q) = (4294967296 : Int) ^ i * (4294967296 : Int) ^ q:=Int.pow_add _ _ _
      refine ⟨(dg b).length - (q + 1),by omega,q + 1,out2.set (i + q) ((c + gt (dg a) i * gt (dg b) q + gt out2 (i + q)) % 4294967296),(c + gt (dg a) i * gt (dg b) q + gt out2 (i + q)) / 4294967296,rfl,by omega,by simp [ho2],hd2.set _ (Int.emod_nonneg _ (by omega)) (Int.emod_lt_of_pos _ (by omega)),hms.2.2.1,hms.2.2.2.1,?_,fun j hj=>by rw [gt_set_ne (by omega)]; exact hz2 j (by omega),by simp [h2],by simp [h3],by simp [h4],by simp [h5],by simp [h6],by simp,by simp (disch:=omega) [h8],by simp [heapS],rfl⟩
      rw [val_setC (by omega),val_take32,hp1]
      rw [hp2] at hval2 ⊢
      have:=hms.2.2.2.2
      grind
     ·try simp only[dc]at h39
      obtain rfl : q = (dg b).length:=by omega
      refine .exit ?_
      refine hK13 _ ?_
      have hil : ((i : Int) + ((dg b).length : Int)).toNat = i + (dg b).length:=by omega
      refine .r ?_ (by simp (disch:=first|omega|(simp only[ln];omega)) [idx_WdD (P:=Tryz.prog) elT125 szT271,if_pos,len_Wd (P:=Tryz.prog) #[125] rfl elT125,h3,h5,h6,h7,heapS,ho2,hil]; rfl)
      refine hK11 _ ?_
      refine .r ?_ (by simp (disch:=first|omega|(simp only[ln];omega)) [h6]; rfl)
      have hpw : (4294967296 : Int) ^ (i + (dg b).length) = (4294967296 : Int) ^ i * (4294967296 : Int) ^ (dg b).length:=Int.pow_add _ _ _
      refine ⟨(dg a).length - (i + 1),by omega,i + 1,out2.set (i + (dg b).length) c,rfl,by omega,by simp [ho2],hd2.set _ hc0 hc1,?_,fun j hj=>by rw [gt_set_ne (by omega)]; exact hz2 j (by omega),by simp [h2],by simp [h3],by simp [h4],by simp [h5],by simp (disch:=omega) [h6],by simp [heapS],rfl⟩
      rw [val_take_all (Nat.le_refl _)] at hval2
      rw [val_setC (by omega),hz2 _ (Nat.le_refl _),val_take32]
      grind
    ·try simp only[dc]at h32
     obtain rfl : i = (dg a).length:=by omega
     refine .exit ?_
     refine hK7 _ ?_
     refine .sq fun K20 hK20=>?_
     refine .region ?_
     refine .k 6 ?_ (by simp (disch:=first|omega|(simp only[ln];omega)) [List.take_succ_cons,List.take_zero,h2,h3,h4,h5,heapS]; rfl)
     refine AOPS.frz1 88 (nx + 1 + 1 + 1) 1 (wd .u32 out) (Wd .u32 out) (by simp) (by simp; first | exact fz_wd (by omega) | exact isl_take_wd (by omega)) ?_
     refine .f (l1Trim_fc (!(decide (a < 0) == decide (b < 0))) out (by omega) hd) hb235 ?_ (ha:=by simp (disch:=first|omega|(simp only[ln];omega)) [idf_Wd',h2,h3,h4,h5,heapS])
     refine .e ?_ (by simp (disch:=first|omega|(simp only[ln];omega)) [h2,h3,h4,h5,heapS]; rfl)
     refine hK20 _ ?_
     refine .ret ?_
     exact hK _ _ _ _ trivial ((Fin.mk (r:=numS (sg (!(decide (a < 0) == decide (b < 0))) (val 4294967296 out))) (by simp [aRes,aResL,aRes1,h4])).cast (by rw [hval,val_take_all (Nat.le_refl _),dg_val,dg_val,sg_mulS]))
end
theorem l1Bits_fc {k : Nat} {z : Int} (hz : Bg k z) (hk : k ≤ 68719476736) : FC Tryz.prog 244 [Wd .u32 (dg z)] (.int .i64 (bitLen z.natAbs : Int)):=by
 have lz : (dg z).length ≤ 137438953472:=by have:=hz.len32; omega
 refine .b Tryz.func244 25 (fun nx K hK=>?_)
 refine .q ?_
 refine .sq fun K2 hK2=>?_
 refine .q ?_ (by simp (disch:=first|omega|(simp only[ln];omega)) [len_Wd (P:=Tryz.prog) #[125] rfl elT125]; rfl)
 refine .c (fun h7=>?_) (fun h7=>?_)
 ·try simp only[dc]at h7
  have h0 : z = 0:=by simp at h7; exact dg_nil.mp h7
  refine .q ?_
  refine .ret ?_
  exact hK _ _ _ _ trivial (Fin.mk (by simp [aRes,aResL,aRes1,h0,bitLen]))
 ·try simp only[dc]at h7
  have h0 : 0 < (dg z).length:=by simp at h7; exact List.length_pos_iff.mpr h7
  have hg:=(dg_dig z).gt (by omega) ((dg z).length - 1)
  obtain ⟨q,hq⟩ : ∃ q : Nat,gt (dg z) ((dg z).length - 1) = (q : Int):=⟨_,(Int.toNat_of_nonneg hg.1).symm⟩
  have hs:=bitLen_topS z q h0 hq
  have he : (((dg z).length : Int) - 1).toNat = (dg z).length - 1:=by omega
  refine .skip ?_
  refine hK2 _ ?_
  refine .q ?_ (by simp (disch:=first|omega|(simp only[ln];omega)) [len_Wd (P:=Tryz.prog) #[125] rfl elT125]; rfl)
  refine .q ?_ (by simp (disch:=first|omega|(simp only[ln];omega)) [idx_WdD (P:=Tryz.prog) elT125 szT271,if_pos,len_Wd (P:=Tryz.prog) #[125] rfl elT125,he,hq,ld_ip agT271]; rfl)
  refine .sq fun K7 hK7=>?_
  refine .block ?_
  refine .loop (fun n s=>∃ m : Nat,n = m ∧ m ≤ q ∧ s.env 3 = .int .i64 ((bitLen z.natAbs : Int) - bitLen m) ∧ s.env 4 = .int .u32 (m : Int) ∧ s.heap = (fun _=>none) ∧ s.nt = 25) (q) (⟨q,rfl,Nat.le_refl _,by simp (disch:=omega); omega,by simp,rfl,rfl⟩) ?_
  rintro n ⟨e,H,nx2,nt⟩ ⟨m,rfl,hm,h3,h4,rfl,rfl⟩
  simp only [] at h3 h4
  have hb32 : bitLen q ≤ 32:=bitLen_le.mpr (by show q < 4294967296; omega)
  have hbm : bitLen n ≤ 32:=bitLen_le.mpr (by show n < 4294967296; omega)
  refine .sq fun K8 hK8=>?_
  refine .q ?_ (by simp (disch:=first|omega|(simp only[ln];omega)) [h4]; rfl)
  refine .c (fun h19=>?_) (fun h19=>?_)
  ·try simp only[dc]at h19
   have hh:=bitLen_half (show n ≠ 0 by omega)
   refine .skip ?_
   refine hK8 _ ?_
   refine .block ?_
   refine .q ?_ (by simp (disch:=first|omega|(simp only[ln];omega)) [h3]; rfl)
   refine .r ?_ (by simp (disch:=first|omega|(simp only[ln];omega)) [h4,IntKind.bits,Int.fdiv_eq_ediv_of_nonneg]; rfl)
   exact ⟨n / 2,by omega,n / 2,rfl,by omega,by simp (disch:=omega); omega,by simp,rfl,rfl⟩
  ·try simp only[dc]at h19
   obtain rfl : n = 0:=by omega
   refine .exit ?_
   refine hK7 _ ?_
   refine .q ?_ (by simp (disch:=first|omega|(simp only[ln];omega)) [h3]; rfl)
   refine .ret ?_
   exact hK _ _ _ _ trivial (Fin.mk (by simp [aRes,aResL,aRes1,bitLen]))

end Go.Proofs.YtaibemhdfhchfaaGreat

/- Walks: the reference's shifts. -/
namespace Go.Proofs.YtaibemhdfhchfaaGreat
open Go Go.RowKit
set_option linter.unusedSimpArgs false
set_option linter.unusedVariables false
set_option maxRecDepth 100000
attribute [local simp] szT2 byT2 agT2 unT2 zoT2 szT3 byT3 agT3 unT3 zoT3 szT4 byT4 agT4 unT4 zoT4 szT25 byT25 agT25 unT25 zoT25 szT27 byT27 agT27 flT27 fdT27_0 fdT27_1 fdT27_2 fdT27_3 zoT27 szT125 byT125 agT125 elT125 unT125 zoT125 szT127 byT127 agT127 flT127 fdT127_0 fdT127_1 zoT127 szT204 byT204 agT204 unT204 zoT204 szT271 byT271 agT271 unT271 zoT271

theorem fld_numS (z : Int) : aFld Tryz.prog 127 (numS z) 1 = some (Wd .u32 (dg z)):=by
  simp only [aFld,numS,fdT127_1,agT125]; rfl

section
attribute [local simp] idf_numS cells_numS numS_fold
set_option maxHeartbeats 2000000 in
theorem l1Left_fc (d : List Int) (dd : Dig 4294967296 d) (q k : Nat) (hq : q ≤ 1073741824) (hk : k < 32) (hd : d.length ≤ 68719476736) : FC Tryz.prog 236 [Wd .u32 d,.int .i64 ((32 * q + k : Nat) : Int)] (Wd .u32 (dg (4294967296 ^ q * (val 4294967296 d * 2 ^ k)))):=by
 have hp1 : (1 : Int) ≤ 2 ^ k:=by have : (0 : Int) < 2 ^ k:=Int.pow_pos (by omega); omega
 have hp2 : (2 : Int) ^ k ≤ 2147483648:=by
   have : (2 : Nat) ^ k ≤ 2 ^ 31:=Nat.pow_le_pow_right (by omega) (by omega)
   have e : (((2 ^ k : Nat)) : Int) = (2 : Int) ^ k:=by simp
   rw [← e]; have e2 : (2 : Nat) ^ 31 = 2147483648:=rfl; omega
 have hls:=leftL_spec dd q hp1 hp2
 have ht1 : ((32 * q + k : Nat) : Int).tdiv 32 = q:=by rw [Int.tdiv_eq_ediv_of_nonneg (by omega)]; omega
 have ht2 : ((32 * q + k : Nat) : Int).tmod 32 = k:=by rw [Int.tmod_eq_emod_of_nonneg (by omega)]; omega
 have hmin : min k 64 = k:=by omega
 generalize hN : ((32 * q + k : Nat) : Int) = N at *
 refine .b Tryz.func236 47 (fun nx K hK=>?_)
 refine .q ?_
 refine .q ?_ (by simp (disch:=first|omega|(simp only[ln];omega)) [if_pos,ht1]; rfl)
 refine .q ?_ (by simp (disch:=first|omega|(simp only[ln];omega)) [ht2]; rfl)
 refine .q ?_
 refine .sq fun K5 hK5=>?_
 refine .q ?_
 refine .block ?_
 refine .loop (fun n s=>∃ i id,n = d.length - i ∧ i ≤ d.length ∧ s.env 0 = Wd .u32 d ∧ s.env 5 = .osl id 0 (q + i) ∧ s.env 6 = .int .u64 (k : Int) ∧ s.env 7 = .int .u64 (leftR d (2 ^ k) i).2 ∧ s.env 8 = .int .i64 (i : Int) ∧ s.heap id = some (1,wd .u32 (List.replicate q 0 ++ (leftR d (2 ^ k) i).1)) ∧ id < s.nx ∧ s.nt = 47) (d.length) (⟨0,nx,by omega,by omega,by simp,by simp,by simp,by simp [leftR],by simp,by simp [leftR],by simp,rfl⟩) ?_
 rintro n ⟨e,H,m,nt⟩ ⟨i,id,rfl,hi,h0,h5,h6,h7,h8,hH,hid,rfl⟩
 simp only [] at h0 h5 h6 h7 h8 hH hid
 obtain ⟨r1,r2,r3,r4,r5⟩:=leftR_spec dd hp1 i
 have hlen : (List.replicate q (0 : Int) ++ (leftR d (2 ^ k) i).1).length = q + i:=by simp [r1]
 have ht : List.take (q + i) (List.replicate q (0 : Int) ++ (leftR d (2 ^ k) i).1) = List.replicate q (0 : Int) ++ (leftR d (2 ^ k) i).1:=List.take_of_length_le (by omega)
 refine .sq fun K7 hK7=>?_
 refine .q ?_ (by simp (disch:=first|omega|(simp only[ln];omega)) [len_Wd (P:=Tryz.prog) #[125] rfl elT125,h0,h8]; rfl)
 refine .c (fun h18=>?_) (fun h18=>?_)
 ·try simp only[dc]at h18
  have hi' : i < d.length:=by omega
  have gd:=dd.gt (by omega) i
  have hm0 : 0 ≤ gt d i * 2 ^ k:=Int.mul_nonneg gd.1 (by omega)
  have hm1 : gt d i * 2 ^ k ≤ 4294967295 * 2147483648:=Int.mul_le_mul (by omega) hp2 (by omega) (by omega)
  have hor:=or_join r3 r4 gd.1 (by omega) (by omega)
  refine .skip ?_
  refine hK7 _ ?_
  refine .sq fun K9 hK9=>?_
  refine .block ?_
  refine .q ?_ (by simp (disch:=first|omega|(simp only[ln];omega)) [idx_WdD (P:=Tryz.prog) elT125 szT271,if_pos,h0,h6,h7,h8,hmin,hor,IntKind.bits,ld_ip agT271]; rfl)
  refine .sq fun K11 hK11=>?_
  refine .region ?_
  refine .k 4 ?_ (by simp (disch:=first|omega|(simp only[ln];omega)) [List.take_succ_cons,List.take_zero,h5,hH,r1,ht,hlen,Nat.ne_of_lt hid]; rfl)
  refine AOPS.opapp (by simp (disch:=first|omega|(simp only[ln];omega)) [opApp.eq_def,aSrc_isl,aSrc_osl,aSrc_nsl,aSrc_int,wd_app,wd_app2,if_pos,wd_append,wd_take,wd_drop,List.nil_append,h5,hH,r1,ht,hlen,Nat.ne_of_lt hid,src_Wd' (P:=Tryz.prog) elT125]; first | rfl | exact ⟨rfl,rfl⟩ | exact ⟨rfl,rfl,rfl⟩) (by simp) (by simp) ?_
  simp only [puts_some,hdrop]
  refine .e ?_ (by simp (disch:=first|omega|(simp only[ln];omega)) [h5,hH,r1,ht,hlen,Nat.ne_of_lt hid]; rfl)
  refine hK11 _ ?_
  refine .r ?_ (by simp (disch:=first|omega|(simp only[ln];omega)) [IntKind.bits,Int.fdiv_eq_ediv_of_nonneg]; rfl)
  refine hK9 _ ?_
  refine .r ?_ (by simp (disch:=first|omega|(simp only[ln];omega)) [h8]; rfl)
  refine ⟨d.length - (i + 1),by omega,i + 1,m + 1,rfl,by omega,by simp [h0],by simp [r1] <;> omega,by simp [h6],by simp [leftR],by simp (disch:=omega) [h8],by simp [leftR,ht,wrap_u32m],by simp,rfl⟩
 ·try simp only[dc]at h18
  obtain rfl : i = d.length:=by omega
  refine .exit ?_
  refine hK5 _ ?_
  refine .sq fun K12 hK12=>?_
  refine .q ?_ (by simp (disch:=first|omega|(simp only[ln];omega)) [h7]; rfl)
  refine .c (fun h38=>?_) (fun h38=>?_)
  ·try simp only[dc]at h38
   have hc : 0 < (leftR d (2 ^ k) d.length).2:=by omega
   have hm2 : (leftR d (2 ^ k) d.length).2 % 4294967296 = (leftR d (2 ^ k) d.length).2:=Int.emod_eq_of_lt r3 (by omega)
   refine .region ?_
   refine .k 4 ?_ (by simp (disch:=first|omega|(simp only[ln];omega)) [List.take_succ_cons,List.take_zero,h5,h7,hH,r1,ht,hlen,Nat.ne_of_lt hid]; rfl)
   refine AOPS.opapp (by simp (disch:=first|omega|(simp only[ln];omega)) [opApp.eq_def,aSrc_isl,aSrc_osl,aSrc_nsl,aSrc_int,wd_app,wd_app2,if_pos,wd_append,wd_take,wd_drop,List.nil_append,h5,h7,hH,r1,ht,hlen,Nat.ne_of_lt hid,src_Wd' (P:=Tryz.prog) elT125]; first | rfl | exact ⟨rfl,rfl⟩ | exact ⟨rfl,rfl,rfl⟩) (by simp) (by simp) ?_
   simp only [puts_some,hdrop]
   refine .e ?_ (by simp (disch:=first|omega|(simp only[ln];omega)) [h5,h7,hH,r1,ht,hlen,Nat.ne_of_lt hid]; rfl)
   refine hK12 _ ?_
   refine .sq fun K14 hK14=>?_
   refine AWP.region ?_
   refine AOPS.runk 1 (by simp (disch:=first|omega|(simp only[ln];omega)) [List.take_succ_cons,List.take_zero,h5]; rfl) ?_
   simp only [List.drop_succ_cons,List.drop_zero]
   refine AOPS.frz1 44 (m + 1) 1 (wd .u32 (leftL d q (2 ^ k))) (Wd .u32 (leftL d q (2 ^ k))) (by simp [leftL,hc,wrap_u32m,ht,hm2,hH]) (by simp [h5,r1]; first | exact fz_wd (by simp [leftL,hc,r1]; try omega) | exact isl_take_wd (by simp [leftL,hc,r1]; try omega)) ?_
   refine AOPS.fcall (l1Trim_fc false (leftL d q (2 ^ k)) (by omega) hls.1) rfl rfl rfl hb235 (by simp) (by simp) (by simp) ?_
   simp only [puts_some]
   refine AOPS.opval (Wd .u32 (dg (sg false (val 4294967296 (leftL d q (2 ^ k)))))) (fld_numS _) (by simp) (by simp) ?_
   simp only [puts_some]
   refine AOPS.all (by simp; rfl) ?_
   refine hK14 _ ?_
   refine .ret ?_
   exact hK _ _ _ _ trivial ((Fin.mk (r:=Wd .u32 (dg (sg false (val 4294967296 (leftL d q (2 ^ k)))))) (by simp [aRes,aResL,aRes1])).cast (by rw [sg_false,hls.2.2]))
  ·try simp only[dc]at h38
   have hc : ¬ 0 < (leftR d (2 ^ k) d.length).2:=by omega
   have hm2 : True:=trivial
   refine .skip ?_
   refine hK12 _ ?_
   refine .sq fun K15 hK15=>?_
   refine AWP.region ?_
   refine AOPS.runk 1 (by simp (disch:=first|omega|(simp only[ln];omega)) [List.take_succ_cons,List.take_zero,h5]; rfl) ?_
   simp only [List.drop_succ_cons,List.drop_zero]
   refine AOPS.frz1 44 (id) 1 (wd .u32 (leftL d q (2 ^ k))) (Wd .u32 (leftL d q (2 ^ k))) (by simp [leftL,hc,wrap_u32m,ht,hm2,hH]) (by simp [h5,r1]; first | exact fz_wd (by simp [leftL,hc,r1]; try omega) | exact isl_take_wd (by simp [leftL,hc,r1]; try omega)) ?_
   refine AOPS.fcall (l1Trim_fc false (leftL d q (2 ^ k)) (by omega) hls.1) rfl rfl rfl hb235 (by simp) (by simp) (by simp) ?_
   simp only [puts_some]
   refine AOPS.opval (Wd .u32 (dg (sg false (val 4294967296 (leftL d q (2 ^ k)))))) (fld_numS _) (by simp) (by simp) ?_
   simp only [puts_some]
   refine AOPS.all (by simp; rfl) ?_
   refine hK15 _ ?_
   refine .ret ?_
   exact hK _ _ _ _ trivial ((Fin.mk (r:=Wd .u32 (dg (sg false (val 4294967296 (leftL d q (2 ^ k)))))) (by simp [aRes,aResL,aRes1])).cast (by rw [sg_false,hls.2.2]))
end

end Go.Proofs.YtaibemhdfhchfaaGreat

/- Walks: the reference's numbers told in 256 bits. -/
namespace Go.Proofs.YtaibemhdfhchfaaGreat
open Go Go.RowKit
set_option linter.unusedSimpArgs false
set_option linter.unusedVariables false
set_option maxRecDepth 100000
attribute [local simp] szT2 byT2 agT2 unT2 zoT2 szT3 byT3 agT3 unT3 zoT3 szT4 byT4 agT4 unT4 zoT4 szT25 byT25 agT25 unT25 zoT25 szT27 byT27 agT27 flT27 fdT27_0 fdT27_1 fdT27_2 fdT27_3 zoT27 szT108 byT108 agT108 elT108 unT108 zoT108 szT125 byT125 agT125 elT125 unT125 zoT125 szT127 byT127 agT127 flT127 fdT127_0 fdT127_1 zoT127 szT271 byT271 agT271 unT271 zoT271

theorem wdZ_8 {z a b c d : Int} (ha : U64 a) (hb : U64 b) (hc : U64 c) (hd : U64 d) (h : modW z = uval a b c d) : wdZ z = wdI a b c d:=by
  unfold wdZ wdI
  rw [h]
  unfold uval
  unfold U64 at *
  congr 1
  congr 1
  · congr 1; omega
  congr 1
  · congr 1; omega
  congr 1
  · congr 1; omega
  congr 1
  · congr 1; omega
theorem left255 : FC Tryz.prog 236 [Wd .u32 [1],.int .i64 255] (Wd .u32 (dg 57896044618658097711785492504343953926634992332820282019728792003956564819968)):=by
  have h:=l1Left_fc [1] (Dig.cons (by omega) (by omega) (Dig.nil _)) 7 31 (by omega) (by omega) (by simp)
  have e : (4294967296 : Int) ^ 7 * (val 4294967296 [1] * 2 ^ 31) = 57896044618658097711785492504343953926634992332820282019728792003956564819968:=by simp [val]
  rw [e] at h; exact h
theorem left256 : FC Tryz.prog 236 [Wd .u32 [1],.int .i64 256] (Wd .u32 (dg 115792089237316195423570985008687907853269984665640564039457584007913129639936)):=by
  have h:=l1Left_fc [1] (Dig.cons (by omega) (by omega) (Dig.nil _)) 8 0 (by omega) (by omega) (by simp)
  have e : (4294967296 : Int) ^ 8 * (val 4294967296 [1] * 2 ^ 0) = 115792089237316195423570985008687907853269984665640564039457584007913129639936:=by simp [val]
  rw [e] at h; exact h

section
attribute [local simp] idf_numS cells_numS numS_fold
set_option maxHeartbeats 2000000 in
theorem l1Wide_fc {k : Nat} {z : Int} (hz : Bg k z) (hk : k ≤ 68719476736) : FC Tryz.prog 211 [numS z] (.tup [wdT z,.bool (fits z)]):=by
 have lz : (dg z).length ≤ 137438953472:=by have:=hz.len32; omega
 refine .b Tryz.func211 77 (fun nx K hK=>?_) (hr:=by simp [idfL,idf,idf_wdT])
 refine .q ?_
 refine .q ?_
 refine .sq fun K3 hK3=>?_
 have J3 : ∀ s : St,(∃ D : List Int,s.env 2 = .ptr (nx + 1) 0 0 ∧ s.env 4 = Wd .u32 D ∧ s.heap (nx + 1) = some (4,[[.int .u64 0,.int .u64 0,.int .u64 0,.int .u64 0]]) ∧ nx + 1 < s.nx ∧ Dig 4294967296 D ∧ D.length ≤ 137438953472 ∧ val 4294967296 D = modW z ∧ fits z = true ∧ s.nt = 77) → K3 s:=by
  rintro ⟨e,H,m,nt⟩ ⟨D,h2,h4,hB,hm,dD,lD,vD,hf,rfl⟩
  simp only [] at h2 h4 hB hm
  refine hK3 _ ?_
  refine .q ?_ (by simp (disch:=first|omega|(simp only[ln];omega)) [if_pos]; rfl)
  refine .sq fun K5 hK5=>?_
  refine .q ?_
  refine .block ?_
  refine .loop (fun n s=>∃ i out,n = 8 - i ∧ i ≤ 8 ∧ out.length = 8 ∧ (∀ j,j < 8 → gt out j = if j < i then gt D j else 0) ∧ s.env 2 = .ptr (nx + 1) 0 0 ∧ s.env 4 = Wd .u32 D ∧ s.env 5 = .osl m 0 8 ∧ s.env 6 = .int .i64 (i : Int) ∧ s.heap (nx + 1) = some (4,[[.int .u64 0,.int .u64 0,.int .u64 0,.int .u64 0]]) ∧ s.heap m = some (1,wd .u64 out) ∧ s.nt = 77) (8) (⟨0,List.replicate 8 0,by omega,by omega,rfl,by intro j hj; rw [if_neg (Nat.not_lt_zero j)]; simp only [gt,List.getElem?_replicate]; split <;> rfl,by simp [h2],by simp [h4],by simp,by simp,by simp (disch:=omega) [hB],by simp,rfl⟩) ?_
  clear h2 h4 hB
  rintro n ⟨e,H,m3,nt⟩ ⟨i,out,rfl,hi,ho,hg,h2,h4,h5,h6,hB,hC,rfl⟩
  simp only [] at h2 h4 h5 h6 hB hC
  refine .sq fun K7 hK7=>?_
  refine .sq fun K8 hK8=>?_
  by_cases hi8 : i < 8
  ·have c8 : decide ((i : Int) < 8) = true:=by simp; omega
   refine .r ?_ (by simp (disch:=first|omega|(simp only[ln];omega)) [len_Wd (P:=Tryz.prog) #[125] rfl elT125,h4,h6,c8]; rfl)
   refine hK8 _ ?_
   refine .c (fun h33=>?_) (fun h33=>?_)
   ·try simp only[dc]at h33
    have hl : i < D.length:=by omega
    have hgD:=dD.gt (by omega) i
    refine .skip ?_
    refine hK7 _ ?_
    refine .sq fun K9 hK9=>?_
    refine .block ?_
    refine .r ?_ (by simp (disch:=first|omega|(simp only[ln];omega)) [idx_WdD (P:=Tryz.prog) elT108 szT25,idx_WdD (P:=Tryz.prog) elT125 szT271,if_pos,h4,h5,h6,hC,ho,ld_ip agT271,ld_ip agT25]; rfl)
    refine hK9 _ ?_
    refine .r ?_ (by simp (disch:=first|omega|(simp only[ln];omega)) [h6]; rfl)
    refine ⟨8 - (i + 1),by omega,i + 1,out.set i (gt D i),rfl,by omega,by simp [ho],?_,by simp [h2],by simp [h4],by simp [h5],by simp (disch:=omega) [h6],by simp (disch:=omega) [hB],by simp,rfl⟩
    intro j hj
    by_cases hji : j = i
    · subst hji; rw [gt_set (by omega)]; simp
    · rw [gt_set_ne (Ne.symm hji),hg _ hj]
      by_cases hlt : j < i
      · rw [if_pos hlt,if_pos (by omega)]
      · rw [if_neg hlt,if_neg (by omega)]
   ·try simp only[dc]at h33
    have hall : ∀ j,j < 8 → gt out j = gt D j:=fun j hj=>by
      rw [hg j hj]
      split
      · rfl
      · rw [gt_ge (by omega)]
    refine .exit ?_
    refine hK5 _ ?_
    refine .sq fun K10 hK10=>?_
    have g0:=dD.gt (by omega) 0
    have g1:=dD.gt (by omega) 1
    have g2:=dD.gt (by omega) 2
    have g3:=dD.gt (by omega) 3
    have g4:=dD.gt (by omega) 4
    have g5:=dD.gt (by omega) 5
    have g6:=dD.gt (by omega) 6
    have g7:=dD.gt (by omega) 7
    refine .df 33 ?_ (by simp (disch:=first|omega|(simp only[ln];omega)) [runDf.eq_def,runF1,runF2,stepF.eq_def,updo.eq_def,hupo.eq_def,opSto1.eq_def,idx_WdD (P:=Tryz.prog) elT108 szT25,if_pos,h2,h5,hB,hC,ho,hall 0 (by omega),hall 1 (by omega),hall 2 (by omega),hall 3 (by omega),hall 4 (by omega),hall 5 (by omega),hall 6 (by omega),hall 7 (by omega),IntKind.bits,or_join2 g6.1 g6.2 g7.1 g7.2,or_join2 g4.1 g4.2 g5.1 g5.2,or_join2 g2.1 g2.2 g3.1 g3.2,or_join2 g0.1 g0.2 g1.1 g1.2,ld_ip agT25]; rfl)
    refine hK10 _ ?_
    refine .ret ?_
    exact hK _ _ _ _ trivial ((Fin.mk (by simp (disch:=omega) [aRes,aResL,aRes1,h2]; rfl)).cast (by
      have h8:=val_8 dD (by rw [vD]; unfold modW; omega)
      rw [vD] at h8
      simp only [wdT,hf,if_true]
      rw [wdZ_8 ⟨by omega,by omega⟩ ⟨by omega,by omega⟩ ⟨by omega,by omega⟩ ⟨by omega,by omega⟩ h8]; simp [wdI]))
  ·have c8 : decide ((i : Int) < 8) = false:=by simp; omega
   refine .r ?_ (by simp (disch:=first|omega|(simp only[ln];omega)) [len_Wd (P:=Tryz.prog) #[125] rfl elT125,h4,h6,c8]; rfl)
   refine hK8 _ ?_
   refine .c (fun h33=>?_) (fun h33=>?_)
   ·simp at h33
   ·try simp only[dc]at h33
    have hall : ∀ j,j < 8 → gt out j = gt D j:=fun j hj=>by
      rw [hg j hj,if_pos (by omega)]
    refine .exit ?_
    refine hK5 _ ?_
    refine .sq fun K11 hK11=>?_
    have g0:=dD.gt (by omega) 0
    have g1:=dD.gt (by omega) 1
    have g2:=dD.gt (by omega) 2
    have g3:=dD.gt (by omega) 3
    have g4:=dD.gt (by omega) 4
    have g5:=dD.gt (by omega) 5
    have g6:=dD.gt (by omega) 6
    have g7:=dD.gt (by omega) 7
    refine .df 33 ?_ (by simp (disch:=first|omega|(simp only[ln];omega)) [runDf.eq_def,runF1,runF2,stepF.eq_def,updo.eq_def,hupo.eq_def,opSto1.eq_def,idx_WdD (P:=Tryz.prog) elT108 szT25,if_pos,h2,h5,hB,hC,ho,hall 0 (by omega),hall 1 (by omega),hall 2 (by omega),hall 3 (by omega),hall 4 (by omega),hall 5 (by omega),hall 6 (by omega),hall 7 (by omega),IntKind.bits,or_join2 g6.1 g6.2 g7.1 g7.2,or_join2 g4.1 g4.2 g5.1 g5.2,or_join2 g2.1 g2.2 g3.1 g3.2,or_join2 g0.1 g0.2 g1.1 g1.2,ld_ip agT25]; rfl)
    refine hK11 _ ?_
    refine .ret ?_
    exact hK _ _ _ _ trivial ((Fin.mk (by simp (disch:=omega) [aRes,aResL,aRes1,h2]; rfl)).cast (by
      have h8:=val_8 dD (by rw [vD]; unfold modW; omega)
      rw [vD] at h8
      simp only [wdT,hf,if_true]
      rw [wdZ_8 ⟨by omega,by omega⟩ ⟨by omega,by omega⟩ ⟨by omega,by omega⟩ ⟨by omega,by omega⟩ h8]; simp [wdI]))
 refine .q ?_
 refine .c (fun h10=>?_) (fun h10=>?_)
 ·try simp only[dc]at h10
  have hzn : z < 0:=by simpa using h10
  refine .sq fun K13 hK13=>?_
  refine .sq fun K14 hK14=>?_
  refine .region ?_
  refine .k 2 ?_
  refine AOPS.frz1 12 (nx + 1 + 1) 1 (wd .u32 [1]) (Wd .u32 [1]) (by simp) (by simp; first | exact fz_wd rfl | exact isl_take_wd (by simp)) ?_
  refine .f left255 hb236 ?_
  refine .f (l1CmpAbs_fc (dg z) (dg 57896044618658097711785492504343953926634992332820282019728792003956564819968) (by omega) (by exact Nat.le_trans row7_top (by omega))) hb250 ?_
  refine .e ?_
  refine hK14 _ ?_
  refine .c (fun h15=>?_) (fun h15=>?_)
  ·try simp only[dc]at h15
   have hf : fits z = false:=by
     have:=cmpS_dg z 57896044618658097711785492504343953926634992332820282019728792003956564819968
     unfold fits; simp; omega
   refine .q ?_
   refine .ret ?_
   exact hK _ _ _ _ trivial ((Fin.mk (by simp (disch:=omega) [aRes,aResL,aRes1]; rfl)).cast (by simp [wdT,hf,wdI]))
  ·try simp only[dc]at h15
   have hle : z.natAbs ≤ 57896044618658097711785492504343953926634992332820282019728792003956564819968:=by
     have:=cmpS_dg z 57896044618658097711785492504343953926634992332820282019728792003956564819968
     omega
   have hsu:=subS_dg (a:=115792089237316195423570985008687907853269984665640564039457584007913129639936) (b:=z) (by omega)
   refine .skip ?_
   refine hK13 _ ?_
   refine .region ?_
   refine .k 1 ?_
   refine AOPS.frz1 17 (nx + 1 + 1 + 1) 1 (wd .u32 [1]) (Wd .u32 [1]) (by simp) (by simp; first | exact fz_wd rfl | exact isl_take_wd (by simp)) ?_
   refine .f left256 hb236 ?_
   refine .kf 1 (l1SubAbs_fc (dg 115792089237316195423570985008687907853269984665640564039457584007913129639936) (dg z) (by exact Nat.le_trans row8_top (by omega)) (dg_dig _) (dg_dig _)) hb247 ?_
   refine .e ?_
   refine J3 _ ?_
   exact ⟨_,by simp,by simp; rfl,by simp,by simp,by exact hsu.1,by rw [hsu.2.1]; exact Nat.le_trans row8_top (by omega),by rw [hsu.2.2]; unfold modW; omega,by unfold fits; simp; omega,rfl⟩
 ·try simp only[dc]at h10
  have hzn : ¬ z < 0:=by simpa using h10
  refine .sq fun K16 hK16=>?_
  refine .region ?_
  refine .kf 1 (l1Bits_fc hz (by omega)) hb244 ?_
  refine .e ?_
  refine hK16 _ ?_
  refine .c (fun h23=>?_) (fun h23=>?_)
  ·try simp only[dc]at h23
   have hf : fits z = false:=by
     cases h : fits z with
     | false=>rfl
     | true =>
       have:=fits_iff.mpr h
       rw [if_neg hzn] at this; omega
   refine .q ?_
   refine .ret ?_
   exact hK _ _ _ _ trivial ((Fin.mk (by simp (disch:=omega) [aRes,aResL,aRes1]; rfl)).cast (by simp [wdT,hf,wdI]))
  ·try simp only[dc]at h23
   have hf : fits z = true:=fits_iff.mp (by rw [if_neg hzn]; omega)
   refine .skip ?_
   refine J3 _ ?_
   exact ⟨dg z,by simp,by simp,by simp,by simp,dg_dig z,lz,by rw [dg_val]; unfold modW; have h:=hf; unfold fits at h; simp at h; omega,hf,rfl⟩
end

end Go.Proofs.YtaibemhdfhchfaaGreat

/- Walks: the reference's divisions. -/
namespace Go.Proofs.YtaibemhdfhchfaaGreat
open Go Go.RowKit
set_option linter.unusedSimpArgs false
set_option linter.unusedVariables false
set_option maxRecDepth 100000
attribute [local simp] szT2 byT2 agT2 unT2 zoT2 szT3 byT3 agT3 unT3 zoT3 szT4 byT4 agT4 unT4 zoT4 szT125 byT125 agT125 elT125 unT125 zoT125 szT127 byT127 agT127 flT127 fdT127_0 fdT127_1 zoT127 szT204 byT204 agT204 unT204 zoT204 szT271 byT271 agT271 unT271 zoT271

theorem Bg.mod {j n : Nat} (h : Bg j (n : Int)) (x : Nat) (hn : n ≠ 0) : Bg j ((x % n : Nat) : Int):=by
  unfold Bg at *
  rw [Int.natAbs_natCast] at *
  have:=Nat.mod_lt x (Nat.pos_of_ne_zero hn)
  omega
theorem sbound {a d N k j : Nat} (hd : d ≠ 0) (hna : bitLen a ≤ 64 * j) (hN : bitLen a = bitLen d + N) (hk : k ≤ N) : Bg j ((d * 2 ^ k : Nat) : Int):=by
  unfold Bg
  simp only [Int.natAbs_natCast]
  have h1 : d < 2 ^ bitLen d:=bitLen_le.1 (Nat.le_refl _)
  have h2 : d * 2 ^ k < 2 ^ bitLen d * 2 ^ k:=Nat.mul_lt_mul_of_pos_right h1 (Nat.two_pow_pos k)
  rw [← Nat.pow_add] at h2
  have h3 : (2 : Nat) ^ (bitLen d + k) ≤ 2 ^ (64 * j):=Nat.pow_le_pow_right (by omega) (by omega)
  have : (2 : Nat) ^ (64 * j) = 18446744073709551616 ^ j:=by rw [Nat.pow_mul]
  omega
theorem l1LeftI (d k : Nat) (hk : k ≤ 34359738367) (hl : (dg (d : Int)).length ≤ 68719476736) : FC Tryz.prog 236 [Wd .u32 (dg (d : Int)),.int .i64 (k : Int)] (Wd .u32 (dg ((d * 2 ^ k : Nat) : Int))):=by
  have h:=l1Left_fc (dg (d : Int)) (dg_dig _) (k / 32) (k % 32) (by omega) (by omega) hl
  rw [show 32 * (k / 32) + k % 32 = k from by omega,dg_val,Int.natAbs_natCast,shl_val] at h
  rw [Int.natCast_mul,pow2_cast]
  exact h

section
attribute [local simp] idf_numS cells_numS numS_fold
set_option maxHeartbeats 2000000 in
theorem l1DivAbs_fc {j : Nat} (a d : Nat) (hd : d ≠ 0) (ha : Bg j a) (hb : Bg j d) (hj : j ≤ 16777216) : FC Tryz.prog 246 [Wd .u32 (dg (a : Int)),Wd .u32 (dg (d : Int))] (.tup [Wd .u32 (dg ((a / d : Nat) : Int)),Wd .u32 (dg ((a % d : Nat) : Int))]):=by
 have la:=ha.len32
 have lb:=hb.len32
 have hna : bitLen a ≤ 64 * j:=by
   rw [bitLen_le]; unfold Bg at ha
   have : (2 : Nat) ^ (64 * j) = 18446744073709551616 ^ j:=by rw [Nat.pow_mul]
   rw [this]; simpa using ha
 have hnb : bitLen d ≤ 64 * j:=by
   rw [bitLen_le]; unfold Bg at hb
   have : (2 : Nat) ^ (64 * j) = 18446744073709551616 ^ j:=by rw [Nat.pow_mul]
   rw [this]; simpa using hb
 refine .b Tryz.func246 59 (fun nx K hK=>?_)
 refine .q ?_
 refine .sq fun K2 hK2=>?_
 refine .region ?_
 refine .kf 1 (l1Bits_fc ha (by omega)) hb244 ?_
 refine .kf 1 (l1Bits_fc hb (by omega)) hb244 ?_
 refine .e ?_
 refine hK2 _ ?_
 refine .sq fun K3 hK3=>?_
 refine .q ?_
 refine .c (fun h17=>?_) (fun h17=>?_)
 ·try simp only[dc]at h17
  have hlt : a < d:=bitLen_lt (by omega)
  refine .q ?_
  refine .ret ?_
  exact hK _ _ _ _ trivial (((Fin.mk (r:=.tup [.nsl,Wd .u32 (dg (a : Int))]) (by simp [aRes,aResL,aRes1])).weak (r':=.tup [Wd .u32 [],Wd .u32 (dg (a : Int))]) (fun _ _ _ _ h=>by
    obtain ⟨vs,rfl,u,r,e,h1,h2⟩:=h
    exact ⟨vs,rfl,u,r,e,nsl_Wd .u32 h1,h2⟩)).cast (by rw [Nat.div_eq_of_lt hlt,Nat.mod_eq_of_lt hlt,show ((0 : Nat) : Int) = 0 from rfl,dg_zero]))
 ·try simp only[dc]at h17
  obtain ⟨N,hN⟩ : ∃ N,bitLen a = bitLen d + N:=⟨bitLen a - bitLen d,by omega⟩
  have hN2 : N < bitLen a:=by have:=bitLen_ne hd; omega
  have eN : (bitLen a : Int) - (bitLen d : Int) = N:=by omega
  have hst:=DvS.start hd hN
  have eq : (N : Int).tdiv 32 = ((N / 32 : Nat) : Int):=by rw [Int.tdiv_eq_ediv_of_nonneg (by omega)]; omega
  have etn : ((N : Int) / 32 + 1).toNat = N / 32 + 1:=by omega
  refine .skip ?_
  refine hK3 _ ?_
  refine .q ?_ (by simp (disch:=first|omega|(simp only[ln];omega)) [if_pos,eN,eq]; rfl)
  refine .q ?_ (by simp (disch:=first|omega|(simp only[ln];omega)) [eN]; rfl)
  refine .sq fun K8 hK8=>?_
  refine .q ?_ (by simp (disch:=first|omega|(simp only[ln];omega)) [eN]; rfl)
  refine .block ?_
  refine .loop (fun n s=>∃ (i id : Nat) (q : List Int) (R : Int),n = i ∧ i ≤ N + 1 ∧ DvS a d q R i ∧ q.length = N / 32 + 1 ∧ R ≤ a ∧ s.env 1 = Wd .u32 (dg (d : Int)) ∧ s.env 7 = .osl id 0 (N / 32 + 1) ∧ s.env 8 = Wd .u32 (dg R) ∧ s.env 9 = .int .i64 ((i : Int) - 1) ∧ s.heap id = some (1,wd .u32 q) ∧ id < s.nx ∧ s.nt = 59) (N + 1) (⟨N + 1,nx,_,_,rfl,by omega,hst,by simp,by omega,by simp,by simp [etn],by simp,by simp,by simp [etn],by simp,rfl⟩) ?_
  rintro n ⟨e,H,m,nt⟩ ⟨i,id,q,R,rfl,hi,hS,hq,hR,h1,h7,h8,h9,hH,hid,rfl⟩
  simp only [] at h1 h7 h8 h9 hH hid
  have hR0:=hS.nn
  have bR : Bg j R:=by unfold Bg at *; have:=Int.natAbs_of_nonneg hR0; simp at ha; omega
  have lR:=bR.len32
  refine .sq fun K10 hK10=>?_
  refine .q ?_ (by simp (disch:=first|omega|(simp only[ln];omega)) [h9]; rfl)
  refine .c (fun h26=>?_) (fun h26=>?_)
  ·try simp only[dc]at h26
   obtain ⟨k,rfl⟩ : ∃ k,n = k + 1:=⟨n - 1,by omega⟩
   have e9 : ((k + 1 : Nat) : Int) - 1 = k:=by omega
   rw [e9] at h9
   have eqk : (k : Int).tdiv 32 = ((k / 32 : Nat) : Int):=by rw [Int.tdiv_eq_ediv_of_nonneg (by omega)]; omega
   have eqm : (k : Int).tmod 32 = ((k % 32 : Nat) : Int):=by rw [Int.tmod_eq_emod_of_nonneg (by omega)]; omega
   have tq : ((k : Int) / 32).toNat = k / 32:=by omega
   have tm : ((k : Int) % 32).toNat = k % 32:=by omega
   have wp : IntKind.u32.wrap (2 ^ (k % 32)) = 2 ^ (k % 32):=by have:=pow2_pos (k % 32); exact wrap_u32s (by omega) hS.or.2.2
   have hs:=sbound hd hna hN (show k ≤ N by omega)
   have bs : Bg j ((d * 2 ^ k : Nat) : Int):=hs
   have ls:=bs.len32
   have es : ((d * 2 ^ k : Nat) : Int) = (d : Int) * 2 ^ k:=by rw [Int.natCast_mul,pow2_cast]
   refine .skip ?_
   refine hK10 _ ?_
   refine .sq fun K12 hK12=>?_
   refine .block ?_
   refine .sq fun K13 hK13=>?_
   refine .region ?_
   refine .kf 2 (l1LeftI d k (by omega) (by omega)) hb236 ?_ (by simp (disch:=first|omega|(simp only[ln];omega)) [List.take_succ_cons,List.take_zero,h1,h9]; rfl) (ha:=by simp (disch:=first|omega|(simp only[ln];omega)) [idf_Wd',h1,h9])
   refine .e ?_ (by simp (disch:=first|omega|(simp only[ln];omega)) [h1,h9]; rfl)
   refine hK13 _ ?_
   refine .sq fun K14 hK14=>?_
   refine .region ?_
   refine .kf 2 (l1CmpAbs_fc (dg R) (dg ((d * 2 ^ k : Nat) : Int)) (by omega) (by omega)) hb250 ?_ (by simp (disch:=first|omega|(simp only[ln];omega)) [List.take_succ_cons,List.take_zero,h8]; rfl) (ha:=by simp (disch:=first|omega|(simp only[ln];omega)) [idf_Wd',h8])
   refine .e ?_ (by simp (disch:=first|omega|(simp only[ln];omega)) [h8]; rfl)
   refine hK14 _ ?_
   refine .c (fun h35=>?_) (fun h35=>?_)
   ·try simp only[dc]at h35
    have hle : (d : Int) * 2 ^ k ≤ R:=by
      have:=cmpS_dg R ((d * 2 ^ k : Nat) : Int)
      rw [es] at this
      have hp:=pow2_pos k
      have : 0 ≤ (d : Int) * 2 ^ k:=Int.mul_nonneg (by omega) (by omega)
      omega
    have hsub:=subS_spec (dg_dig R) (dg_dig ((d * 2 ^ k : Nat) : Int)) (dg_len_mono (by rw [es]; omega)) (by rw [dg_val,dg_val,es]; omega)
    rw [dg_val,dg_val] at hsub
    have hT:=l1Trim_fc false (subS (dg R) (dg ((d * 2 ^ k : Nat) : Int))) (by omega) hsub.1
    rw [hsub.2.2,sg_false,es] at hT
    rw [show (R.natAbs : Int) - (((d : Int) * 2 ^ k).natAbs : Int) = R - (d : Int) * 2 ^ k from by omega] at hT
    refine .sq fun K15 hK15=>?_
    refine AWP.region ?_
    refine AOPS.runk 2 (by simp (disch:=first|omega|(simp only[ln];omega)) [List.take_succ_cons,List.take_zero,h8]; rfl) ?_
    simp only [List.drop_succ_cons,List.drop_zero]
    refine AOPS.fcall (l1SubAbs_fc (dg R) (dg ((d * 2 ^ k : Nat) : Int)) (by omega) (dg_dig _) (dg_dig _)) rfl rfl rfl hb247 (by simp [h8,idf_Wd']) (by simp) (by simp) ?_
    simp only [puts_some]
    refine AOPS.fcall hT rfl rfl rfl hb235 (by simp) (by simp) (by simp) ?_
    simp only [puts_some]
    refine AOPS.opval (Wd .u32 (dg (R - (d : Int) * 2 ^ k))) (fld_numS _) (by simp) (by simp) ?_
    simp only [puts_some]
    refine AOPS.all (by simp; rfl) ?_
    refine hK15 _ ?_
    refine .r ?_ (by simp (disch:=first|omega|(simp only[ln];omega)) [idx_WdD (P:=Tryz.prog) elT125 szT271,if_pos,h7,h9,hH,hq,eqk,eqm,ld_ip agT271,hS.or.1,IntKind.bits]; rfl)
    refine hK12 _ ?_
    refine .r ?_ (by simp (disch:=first|omega|(simp only[ln];omega)) [h9]; rfl)
    refine ⟨k,by omega,k,id,q.set (k / 32) (gt q (k / 32) + 2 ^ (k % 32)),R - (d : Int) * 2 ^ k,rfl,by omega,hS.take hle (by omega),by simp [hq],by omega,by simp [h1],by simp [h7],by simp,by simp [h9],by simp [tq,tm,wp,hS.or.1],by simpa using hid,rfl⟩
   ·try simp only[dc]at h35
    have hlt : R < (d : Int) * 2 ^ k:=by
      have:=cmpS_dg R ((d * 2 ^ k : Nat) : Int)
      rw [es] at this
      have hp:=pow2_pos k
      have : 0 ≤ (d : Int) * 2 ^ k:=Int.mul_nonneg (by omega) (by omega)
      omega
    refine .skip ?_
    refine hK12 _ ?_
    refine .r ?_ (by simp (disch:=first|omega|(simp only[ln];omega)) [h9]; rfl)
    refine ⟨k,by omega,k,id,q,R,rfl,by omega,hS.skip hlt,hq,hR,by simp [h1],by simp [h7],by simp [h8],by simp [h9],by simp [hH],by simpa using hid,rfl⟩
  ·try simp only[dc]at h26
   obtain rfl : n = 0:=by omega
   obtain ⟨hd1,hd2⟩:=hS.done
   have hT:=l1Trim_fc false q (by omega) hS.dig
   rw [sg_false,hd1] at hT
   rw [hd2] at h8
   refine .exit ?_
   refine hK8 _ ?_
   refine .sq fun K16 hK16=>?_
   refine AWP.region ?_
   refine AOPS.runk 1 (by simp (disch:=first|omega|(simp only[ln];omega)) [List.take_succ_cons,List.take_zero,h7,h8]; rfl) ?_
   simp only [List.drop_succ_cons,List.drop_zero]
   refine AOPS.frz1 55 id 1 (wd .u32 q) (Wd .u32 q) (by simp [hH]) (by simp [h7,← hq]; first | exact fz_wd rfl | exact isl_take_wd (Nat.le_refl _)) ?_
   refine AOPS.fcall hT rfl rfl rfl hb235 (by simp) (by simp) (by simp) ?_
   simp only [puts_some]
   refine AOPS.opval (Wd .u32 (dg ((a / d : Nat) : Int))) (fld_numS _) (by simp) (by simp) ?_
   simp only [puts_some]
   refine AOPS.all (by simp (disch:=first|omega|(simp only[ln];omega)) [List.take_succ_cons,List.take_zero,h7,h8]; rfl) ?_
   refine hK16 _ ?_
   refine .ret ?_
   exact hK _ _ _ _ trivial (Fin.m)
set_option maxHeartbeats 2000000 in
theorem l1Gcd_fc {j : Nat} (a b : Int) (ha : Bg j a) (hb : Bg j b) (hj : j ≤ 16777216) : FC Tryz.prog 179 [numS a,numS b] (numS ((Int.gcd a b : Nat) : Int)):=by
 refine .b Tryz.func179 26 (fun nx K hK=>?_)
 refine .q ?_
 refine .q ?_
 refine .q ?_
 refine .sq fun K4 hK4=>?_
 refine .block ?_
 refine .loop (fun n s=>∃ x y : Nat,n = y ∧ Nat.gcd x y = Int.gcd a b ∧ Bg j x ∧ Bg j y ∧ s.env 4 = .ptr (nx + 1 + 1) 0 0 ∧ s.env 5 = Wd .u32 (dg (x : Int)) ∧ s.env 6 = Wd .u32 (dg (y : Int)) ∧ s.heap (nx + 1 + 1) = some (2,[[.bool false,.nsl]]) ∧ s.nt = 26) (b.natAbs) (⟨a.natAbs,b.natAbs,rfl,rfl,ha.abs,hb.abs,by simp,by simp [dg_abs],by simp [dg_abs],by simp,rfl⟩) ?_
 rintro n ⟨e,H,m,nt⟩ ⟨x,y,rfl,hg,bx,bY,h4,h5,h6,hH,rfl⟩
 simp only [] at h4 h5 h6 hH
 have lx:=bx.len32
 have ly:=bY.len32
 refine .sq fun K5 hK5=>?_
 refine .q ?_ (by simp (disch:=first|omega|(simp only[ln];omega)) [len_Wd (P:=Tryz.prog) #[125] rfl elT125,h6]; rfl)
 refine .c (fun h15=>?_) (fun h15=>?_)
 ·try simp only[dc]at h15
  have hy : n ≠ 0:=fun h=>by
    subst h
    simp [dg_zero] at h15
  refine .skip ?_
  refine hK5 _ ?_
  refine .block ?_
  refine .sq fun K7 hK7=>?_
  refine .region ?_
  refine .kf 2 (l1DivAbs_fc x n hy bx bY hj) hb246 ?_ (by simp (disch:=first|omega|(simp only[ln];omega)) [List.take_succ_cons,List.take_zero,h5,h6]; rfl) (ha:=by simp (disch:=first|omega|(simp only[ln];omega)) [idf_Wd',h5,h6])
  refine .e ?_ (by simp (disch:=first|omega|(simp only[ln];omega)) [h5,h6]; rfl)
  refine hK7 _ ?_
  refine .r ?_ (by simp (disch:=first|omega|(simp only[ln];omega)) [h6]; rfl)
  refine ⟨x % n,Nat.mod_lt _ (by omega),n,x % n,rfl,by rw [← hg,Nat.gcd_comm n,← Nat.gcd_rec,Nat.gcd_comm],bY,bY.mod x (by omega),by simp [h4],by simp [h6],by simp,by simp [hH],rfl⟩
 ·try simp only[dc]at h15
  have hy : n = 0:=by
    have : (dg (n : Int)).length = 0:=by omega
    rw [dg_len0] at this; omega
  subst hy
  rw [Nat.gcd_zero_right] at hg
  have hT:=l1Trim_fc false (dg (x : Int)) (by omega) (dg_dig _)
  rw [sg_false,dg_val,Int.natAbs_natCast,hg] at hT
  rw [hg] at h5
  refine .exit ?_
  refine hK4 _ ?_
  refine .sq fun K8 hK8=>?_
  refine .region ?_
  refine .kf 1 hT hb235 ?_ (by simp (disch:=first|omega|(simp only[ln];omega)) [List.take_succ_cons,List.take_zero,h4,h5,hH]; rfl) (ha:=by simp (disch:=first|omega|(simp only[ln];omega)) [idf_Wd',h4,h5,hH])
  refine .e ?_ (by simp (disch:=first|omega|(simp only[ln];omega)) [h4,h5,hH]; rfl)
  refine hK8 _ ?_
  refine .ret ?_
  exact hK _ _ _ _ trivial (Fin.mk (by simp (disch:=omega) [aRes,aResL,aRes1,h4]))
end

end Go.Proofs.YtaibemhdfhchfaaGreat

/- Walks: the quotient of 128 bits by 64. -/
namespace Go.Proofs.YtaibemhdfhchfaaGreat
open Go Go.RowKit
set_option linter.unusedSimpArgs false
set_option linter.unusedVariables false
set_option maxRecDepth 100000
attribute [local simp] szT3 byT3 agT3 unT3 zoT3 szT25 byT25 agT25 unT25 zoT25 szT204 byT204 agT204 unT204 zoT204

set_option maxHeartbeats 4000000 in
theorem div64_fc {hi lo y0 : Int} (h0 : 0 ≤ hi) (h1 : hi < y0) (hl0 : 0 ≤ lo) (hl : lo < 18446744073709551616) (hy : y0 < 18446744073709551616) : FC Tryz.prog 278 [.int .u64 hi,.int .u64 lo,.int .u64 y0] (.tup [.int .u64 ((hi * 18446744073709551616 + lo) / y0),.int .u64 ((hi * 18446744073709551616 + lo) % y0)]):=by
 obtain ⟨y,rfl⟩:=Int.eq_ofNat_of_zero_le (show 0 ≤ y0 by omega)
 obtain ⟨S,p,Y,U,X,hbl,hS,hp,hp0,hY,hYp,hY1,hY2,hhi0,hhi1,hor,hU0,hU,hX,hN⟩:=dv_norm h0 h1 hl0 hl (show y < 18446744073709551616 by omega)
 have hX0 : 0 ≤ X ∧ X < 18446744073709551616:=by omega
 have hwX : IntKind.u64.wrap (lo * 2 ^ S) = X:=by rw [wrap_u64m,hX]
 have hmin : min S 64 = S:=by omega
 have hmin2 : min (64 - S) 64 = 64 - S:=by omega
 have w8 : (64 : Int) - (bitLen y : Int) = S:=by omega
 have hyn : y ≠ 0:=by omega
 have c64 : (S : Int) ≤ 64:=by omega
 have w9 : ((64 : Int) - (S : Int)).toNat = 64 - S:=by omega
 have f1 : (lo.fdiv (2 ^ (64 - S))) = lo / 2 ^ (64 - S):=Int.fdiv_eq_ediv_of_nonneg _ (Int.le_of_lt (pow2_pos _))
 refine .b Tryz.func278 135 (fun nx K hK=>?_)
 refine .q ?_
 refine .sq fun K2 hK2=>?_
 refine .q ?_
 refine .c (fun h20=>?_) (fun h20=>?_)
 ·simp at h20; omega
 ·try simp only[dc]at h20
  refine .skip ?_
  refine hK2 _ ?_
  refine .sq fun K4 hK4=>?_
  refine .q ?_
  refine .c (fun h24=>?_) (fun h24=>?_)
  ·simp at h24; omega
  ·try simp only[dc]at h24
   refine .skip ?_
   refine hK4 _ ?_
   refine .sq fun K6 hK6=>?_
   refine .q ?_
   refine .c (fun h27=>?_) (fun h27=>?_)
   ·try simp only[dc]at h27
    have hi0 : hi = 0:=by simpa using h27
    subst hi0
    have tq1 : lo.tdiv (y : Int) = lo / y:=Int.tdiv_eq_ediv_of_nonneg hl0
    have tq2 : lo.tmod (y : Int) = lo % y:=Int.tmod_eq_emod_of_nonneg hl0
    have dn0 : 0 ≤ lo / (y : Int):=Int.ediv_nonneg hl0 (by omega)
    have dn1 : lo / (y : Int) ≤ lo:=Int.ediv_le_self _ hl0
    have dn2:=Int.emod_nonneg lo (show (y : Int) ≠ 0 by omega)
    have dn3:=Int.emod_lt_of_pos lo h1
    refine .sq fun K8 hK8=>?_
    refine .df 6 ?_ (by simp (disch:=first|omega|(simp only[ln];omega)) [runDf.eq_def,runF1,runF2,stepF.eq_def,updo.eq_def,hupo.eq_def,opSto1.eq_def,tq1,tq2,hyn]; rfl)
    refine hK8 _ ?_
    refine .ret ?_
    exact hK _ _ _ _ trivial ((Fin.m).cast (by simp))
   ·try simp only[dc]at h27
    refine .skip ?_
    refine hK6 _ ?_
    refine .sq fun K9 hK9=>?_
    refine .region ?_
    refine .kf 1 (lz64_fc y (by omega)) hb237 ?_ (by simp (disch:=first|omega|(simp only[ln];omega)) [List.take_succ_cons,List.take_zero,w8]; rfl) (ha:=by simp (disch:=first|omega|(simp only[ln];omega)) [idf_Wd',w8])
    refine .e ?_ (by simp (disch:=first|omega|(simp only[ln];omega)) [w8]; rfl)
    refine hK9 _ ?_
    refine .q ?_ (by simp (disch:=first|omega|(simp only[ln];omega)) [hmin,hY,IntKind.bits]; rfl)
    refine .q ?_ (by simp (disch:=first|omega|(simp only[ln];omega)) [IntKind.bits,Int.fdiv_eq_ediv_of_nonneg]; rfl)
    refine .q ?_ (by simp (disch:=first|omega|(simp only[ln];omega)) [and_low32]; rfl)
    refine .q ?_ (by simp (disch:=first|omega|(simp only[ln];omega)) [hmin,hmin2,w9,hor,f1,c64,IntKind.bits]; rfl)
    refine .q ?_ (by simp (disch:=first|omega|(simp only[ln];omega)) [hmin,hwX,IntKind.bits]; rfl)
    refine .q ?_ (by simp (disch:=first|omega|(simp only[ln];omega)) [IntKind.bits,Int.fdiv_eq_ediv_of_nonneg]; rfl)
    refine .q ?_ (by simp (disch:=first|omega|(simp only[ln];omega)) [and_low32]; rfl)
    have hy1n : Y / 4294967296 ≠ 0:=by omega
    have eY : Y / 4294967296 * 4294967296 + Y % 4294967296 = Y:=by omega
    have hD0:=DvH.start (y1:=Y / 4294967296) (y0:=Y % 4294967296) (u:=U) (un:=X / 4294967296) (by omega) (by omega) (by omega) hU0 (by omega) (by omega)
    have hd0:=hD0.q0
    have hd1:=hD0.qm
    have hd2:=hD0.r0
    have hd3:=hD0.e
    have tq : U.tdiv (Y / 4294967296) = U / (Y / 4294967296):=Int.tdiv_eq_ediv_of_nonneg hU0
    have dm:=Int.emod_lt_of_pos U (show 0 < Y / 4294967296 by omega)
    have dm2:=Int.mul_ediv_add_emod U (Y / 4294967296)
    rw [Int.mul_comm] at dm2
    have w16 : IntKind.u64.wrap (U - IntKind.u64.wrap (U / (Y / 4294967296) * (Y / 4294967296))) = U - U / (Y / 4294967296) * (Y / 4294967296):=by simp only [wrap_u64m]; omega
    refine .q ?_ (by simp (disch:=first|omega|(simp only[ln];omega)) [tq,hy1n]; rfl)
    refine .q ?_
    refine .sq fun K19 hK19=>?_
    have J19 : ∀ s : St,(∃ q : Int,0 ≤ q ∧ q < 4294967296 ∧ 0 ≤ (U) * 4294967296 + X / 4294967296 - q * Y ∧ (U) * 4294967296 + X / 4294967296 - q * Y < Y ∧ s.env 2 = .int .u64 Y ∧ s.env 8 = .int .u64 (S : Int) ∧ s.env 9 = .int .u64 (Y / 4294967296) ∧ s.env 10 = .int .u64 (Y % 4294967296) ∧ s.env 11 = .int .u64 U ∧ s.env 13 = .int .u64 (X / 4294967296) ∧ s.env 14 = .int .u64 (X % 4294967296) ∧ s.env 15 = .int .u64 q ∧ s.nt = 135) → K19 s:=by
     rintro ⟨e,H,m,nt⟩ ⟨q1,q10,q11,k0,k1,g2,g8,g9,g10,g11,g13,g14,g15,rfl⟩
     simp only [] at g2 g8 g9 g10 g11 g13 g14 g15
     obtain ⟨R1,hR1⟩ : ∃ R1,U * 4294967296 + X / 4294967296 - q1 * Y = R1:=⟨_,rfl⟩
     rw [hR1] at k0 k1
     have hR1' : IntKind.u64.wrap (IntKind.u64.wrap (IntKind.u64.wrap (U * 4294967296) + X / 4294967296) - IntKind.u64.wrap (q1 * Y)) = R1:=by
       simp only [wrap_u64m]; omega
     refine hK19 _ ?_
     refine .q ?_ (by simp (disch:=first|omega|(simp only[ln];omega)) [g11,g13,g15,g2,hR1']; rfl)
     have hy1n : Y / 4294967296 ≠ 0:=by omega
     have eY : Y / 4294967296 * 4294967296 + Y % 4294967296 = Y:=by omega
     have hD0:=DvH.start (y1:=Y / 4294967296) (y0:=Y % 4294967296) (u:=R1) (un:=X % 4294967296) (by omega) (by omega) (by omega) k0 (by omega) (by omega)
     have hd0:=hD0.q0
     have hd1:=hD0.qm
     have hd2:=hD0.r0
     have hd3:=hD0.e
     have tq : R1.tdiv (Y / 4294967296) = R1 / (Y / 4294967296):=Int.tdiv_eq_ediv_of_nonneg k0
     have dm:=Int.emod_lt_of_pos R1 (show 0 < Y / 4294967296 by omega)
     have dm2:=Int.mul_ediv_add_emod R1 (Y / 4294967296)
     rw [Int.mul_comm] at dm2
     have w16 : IntKind.u64.wrap (R1 - IntKind.u64.wrap (R1 / (Y / 4294967296) * (Y / 4294967296))) = R1 - R1 / (Y / 4294967296) * (Y / 4294967296):=by simp only [wrap_u64m]; omega
     refine .q ?_ (by simp (disch:=first|omega|(simp only[ln];omega)) [g9,tq,hy1n]; rfl)
     refine .q ?_ (by simp (disch:=first|omega|(simp only[ln];omega)) [g9]; rfl)
     refine .sq fun K23 hK23=>?_
     have J23 : ∀ s : St,(∃ q : Int,0 ≤ q ∧ q < 4294967296 ∧ 0 ≤ (R1) * 4294967296 + X % 4294967296 - q * Y ∧ (R1) * 4294967296 + X % 4294967296 - q * Y < Y ∧ s.env 2 = .int .u64 Y ∧ s.env 8 = .int .u64 (S : Int) ∧ s.env 9 = .int .u64 (Y / 4294967296) ∧ s.env 10 = .int .u64 (Y % 4294967296) ∧ s.env 14 = .int .u64 (X % 4294967296) ∧ s.env 15 = .int .u64 q1 ∧ s.env 17 = .int .u64 R1 ∧ s.env 18 = .int .u64 q ∧ s.nt = 135) → K23 s:=by
      clear g2 g8 g9 g10 g11 g13 g14 g15
      rintro ⟨e,H,m,nt⟩ ⟨q0,q00,q01,k2,k3,g2,g8,g9,g10,g14,g15,g17,g18,rfl⟩
      simp only [] at g2 g8 g9 g10 g14 g15 g17 g18
      obtain ⟨R0,hR0⟩ : ∃ R0,R1 * 4294967296 + X % 4294967296 - q0 * Y = R0:=⟨_,rfl⟩
      rw [hR0] at k2 k3
      have hR0' : IntKind.u64.wrap (IntKind.u64.wrap (IntKind.u64.wrap (R1 * 4294967296) + X % 4294967296) - IntKind.u64.wrap (q0 * Y)) = R0:=by
        simp only [wrap_u64m]; omega
      have hf:=dv_fin (N:=hi * 18446744073709551616 + lo) (y:=(y : Int)) (u:=U) (un1:=X / 4294967296) (un0:=X % 4294967296) (q1:=q1) (q0:=q0) (R1:=R1) (R0:=R0) hp0 (by rw [← hYp]; exact hR1) (by rw [← hYp]; exact hR0) (by rw [hN]; omega) k2 (by rw [← hYp]; exact k3)
      have f2 : R0.fdiv (2 ^ S) = R0 / 2 ^ S:=Int.fdiv_eq_ediv_of_nonneg _ (Int.le_of_lt (pow2_pos _))
      refine hK23 _ ?_
      refine .q ?_ (by simp (disch:=first|omega|(simp only[ln];omega)) [g2,g8,g14,g15,g17,g18,hR0',hmin,IntKind.bits,f2]; rfl)
      refine .ret ?_
      exact hK _ _ _ _ trivial ((Fin.m).cast (by first | rw [hf.1,hf.2,hp] | skip))
     refine .block ?_
     refine .loop (fun n s=>∃ q r : Int,n = q.toNat ∧ DvH (Y / 4294967296) (Y % 4294967296) (R1) (X % 4294967296) q r ∧ r < 4294967296 ∧ s.env 2 = .int .u64 Y ∧ s.env 8 = .int .u64 (S : Int) ∧ s.env 9 = .int .u64 (Y / 4294967296) ∧ s.env 10 = .int .u64 (Y % 4294967296) ∧ s.env 14 = .int .u64 (X % 4294967296) ∧ s.env 15 = .int .u64 q1 ∧ s.env 17 = .int .u64 R1 ∧ s.env 18 = .int .u64 q ∧ s.env 16 = .int .u64 r ∧ s.nt = 135) (((R1) / (Y / 4294967296)).toNat) (⟨(R1) / (Y / 4294967296),(R1) - (R1) / (Y / 4294967296) * (Y / 4294967296),rfl,hD0,by omega,by simp [g2],by simp [g8],by simp [g9],by simp [g10],by simp [g14],by simp [g15],by simp,by simp,by simp [w16],rfl⟩) ?_
     rintro n ⟨e,H,m,nt⟩ ⟨q,r,rfl,hD,hr,g2,g8,g9,g10,g14,g15,g17,gq,gr,rfl⟩
     simp only [] at g2 g8 g9 g10 g14 g15 g17 gq gr
     have hr0:=hD.r0
     have hq0:=hD.q0
     have hqm:=hD.qm
     refine .sq fun K25 hK25=>?_
     refine .sq fun K26 hK26=>?_
     by_cases hqB : 4294967296 ≤ q
     ·have c1 : decide (4294967296 ≤ q) = true:=by simp; omega
      refine .r ?_ (by simp (disch:=first|omega|(simp only[ln];omega)) [gq,c1]; rfl)
      refine hK26 _ ?_
      refine .c (fun h113=>?_) (fun h113=>?_)
      ·try simp only[dc]at h113
       have hq1:=hD.pos (by omega) (.inl hqB)
       have hst:=hD.step (by omega) (by omega) (by omega) (by omega) (by omega) (.inl hqB)
       refine .skip ?_
       refine hK25 _ ?_
       refine .block ?_
       refine .q ?_ (by simp (disch:=first|omega|(simp only[ln];omega)) [gq]; rfl)
       refine .q ?_ (by simp (disch:=first|omega|(simp only[ln];omega)) [gr,g9]; rfl)
       refine .q ?_
       refine .c (fun h120=>?_) (fun h120=>?_)
       ·try simp only[dc]at h120
        have ho:=hst.out (by omega) (by omega) (by omega) (by omega) (by omega) (by omega) (.inr ⟨by omega,by omega⟩)
        rw [eY] at ho
        refine .exit ?_
        refine J23 _ ?_
        exact ⟨q - 1,by omega,ho.2.2,ho.1,ho.2.1,by simp [g2],by simp [g8],by simp [g9],by simp [g10],by simp [g14],by simp [g15],by simp [g17],by simp [gq],rfl⟩
       ·try simp only[dc]at h120
        refine .skip ?_
        refine ⟨(q - 1).toNat,by omega,q - 1,r + Y / 4294967296,rfl,hst,by omega,by simp [g2],by simp [g8],by simp [g9],by simp [g10],by simp [g14],by simp [g15],by simp [g17],by simp,by simp,rfl⟩
      ·simp at h113
     ·have c1 : decide (4294967296 ≤ q) = false:=by simp; omega
      have m1 : q * (Y % 4294967296) ≤ 4294967295 * 4294967295:=Int.mul_le_mul (by omega) (by omega) (by omega) (by omega)
      have m0 : 0 ≤ q * (Y % 4294967296):=Int.mul_nonneg (by omega) (by omega)
      refine .r ?_ (by simp (disch:=first|omega|(simp only[ln];omega)) [gq,gr,g10,g14,c1]; rfl)
      refine hK26 _ ?_
      refine .c (fun h113=>?_) (fun h113=>?_)
      ·try simp only[dc]at h113
       have hq1:=hD.pos (by omega) (.inr (by omega))
       have hst:=hD.step (by omega) (by omega) (by omega) (by omega) (by omega) (.inr (by omega))
       refine .skip ?_
       refine hK25 _ ?_
       refine .block ?_
       refine .q ?_ (by simp (disch:=first|omega|(simp only[ln];omega)) [gq]; rfl)
       refine .q ?_ (by simp (disch:=first|omega|(simp only[ln];omega)) [gr,g9]; rfl)
       refine .q ?_
       refine .c (fun h120=>?_) (fun h120=>?_)
       ·try simp only[dc]at h120
        have ho:=hst.out (by omega) (by omega) (by omega) (by omega) (by omega) (by omega) (.inr ⟨by omega,by omega⟩)
        rw [eY] at ho
        refine .exit ?_
        refine J23 _ ?_
        exact ⟨q - 1,by omega,ho.2.2,ho.1,ho.2.1,by simp [g2],by simp [g8],by simp [g9],by simp [g10],by simp [g14],by simp [g15],by simp [g17],by simp [gq],rfl⟩
       ·try simp only[dc]at h120
        refine .skip ?_
        refine ⟨(q - 1).toNat,by omega,q - 1,r + Y / 4294967296,rfl,hst,by omega,by simp [g2],by simp [g8],by simp [g9],by simp [g10],by simp [g14],by simp [g15],by simp [g17],by simp,by simp,rfl⟩
      ·try simp only[dc]at h113
       have ho:=hD.out (by omega) (by omega) (by omega) (by omega) (by omega) (by omega) (.inl ⟨by omega,by omega⟩)
       rw [eY] at ho
       refine .exit ?_
       refine J23 _ ?_
       exact ⟨q,by omega,ho.2.2,ho.1,ho.2.1,by simp [g2],by simp [g8],by simp [g9],by simp [g10],by simp [g14],by simp [g15],by simp [g17],by simp [gq],rfl⟩
    refine .block ?_
    refine .loop (fun n s=>∃ q r : Int,n = q.toNat ∧ DvH (Y / 4294967296) (Y % 4294967296) (U) (X / 4294967296) q r ∧ r < 4294967296 ∧ s.env 2 = .int .u64 Y ∧ s.env 8 = .int .u64 (S : Int) ∧ s.env 9 = .int .u64 (Y / 4294967296) ∧ s.env 10 = .int .u64 (Y % 4294967296) ∧ s.env 11 = .int .u64 U ∧ s.env 13 = .int .u64 (X / 4294967296) ∧ s.env 14 = .int .u64 (X % 4294967296) ∧ s.env 15 = .int .u64 q ∧ s.env 16 = .int .u64 r ∧ s.nt = 135) (((U) / (Y / 4294967296)).toNat) (⟨(U) / (Y / 4294967296),(U) - (U) / (Y / 4294967296) * (Y / 4294967296),rfl,hD0,by omega,by simp,by simp,by simp,by simp,by simp,by simp,by simp,by simp,by simp [w16],rfl⟩) ?_
    rintro n ⟨e,H,m,nt⟩ ⟨q,r,rfl,hD,hr,g2,g8,g9,g10,g11,g13,g14,gq,gr,rfl⟩
    simp only [] at g2 g8 g9 g10 g11 g13 g14 gq gr
    have hr0:=hD.r0
    have hq0:=hD.q0
    have hqm:=hD.qm
    refine .sq fun K33 hK33=>?_
    refine .sq fun K34 hK34=>?_
    by_cases hqB : 4294967296 ≤ q
    ·have c1 : decide (4294967296 ≤ q) = true:=by simp; omega
     refine .r ?_ (by simp (disch:=first|omega|(simp only[ln];omega)) [gq,c1]; rfl)
     refine hK34 _ ?_
     refine .c (fun h78=>?_) (fun h78=>?_)
     ·try simp only[dc]at h78
      have hq1:=hD.pos (by omega) (.inl hqB)
      have hst:=hD.step (by omega) (by omega) (by omega) (by omega) (by omega) (.inl hqB)
      refine .skip ?_
      refine hK33 _ ?_
      refine .block ?_
      refine .q ?_ (by simp (disch:=first|omega|(simp only[ln];omega)) [gq]; rfl)
      refine .q ?_ (by simp (disch:=first|omega|(simp only[ln];omega)) [gr,g9]; rfl)
      refine .q ?_
      refine .c (fun h85=>?_) (fun h85=>?_)
      ·try simp only[dc]at h85
       have ho:=hst.out (by omega) (by omega) (by omega) (by omega) (by omega) (by omega) (.inr ⟨by omega,by omega⟩)
       rw [eY] at ho
       refine .exit ?_
       refine J19 _ ?_
       exact ⟨q - 1,by omega,ho.2.2,ho.1,ho.2.1,by simp [g2],by simp [g8],by simp [g9],by simp [g10],by simp [g11],by simp [g13],by simp [g14],by simp [gq],rfl⟩
      ·try simp only[dc]at h85
       refine .skip ?_
       refine ⟨(q - 1).toNat,by omega,q - 1,r + Y / 4294967296,rfl,hst,by omega,by simp [g2],by simp [g8],by simp [g9],by simp [g10],by simp [g11],by simp [g13],by simp [g14],by simp,by simp,rfl⟩
     ·simp at h78
    ·have c1 : decide (4294967296 ≤ q) = false:=by simp; omega
     have m1 : q * (Y % 4294967296) ≤ 4294967295 * 4294967295:=Int.mul_le_mul (by omega) (by omega) (by omega) (by omega)
     have m0 : 0 ≤ q * (Y % 4294967296):=Int.mul_nonneg (by omega) (by omega)
     refine .r ?_ (by simp (disch:=first|omega|(simp only[ln];omega)) [gq,gr,g10,g13,c1]; rfl)
     refine hK34 _ ?_
     refine .c (fun h78=>?_) (fun h78=>?_)
     ·try simp only[dc]at h78
      have hq1:=hD.pos (by omega) (.inr (by omega))
      have hst:=hD.step (by omega) (by omega) (by omega) (by omega) (by omega) (.inr (by omega))
      refine .skip ?_
      refine hK33 _ ?_
      refine .block ?_
      refine .q ?_ (by simp (disch:=first|omega|(simp only[ln];omega)) [gq]; rfl)
      refine .q ?_ (by simp (disch:=first|omega|(simp only[ln];omega)) [gr,g9]; rfl)
      refine .q ?_
      refine .c (fun h85=>?_) (fun h85=>?_)
      ·try simp only[dc]at h85
       have ho:=hst.out (by omega) (by omega) (by omega) (by omega) (by omega) (by omega) (.inr ⟨by omega,by omega⟩)
       rw [eY] at ho
       refine .exit ?_
       refine J19 _ ?_
       exact ⟨q - 1,by omega,ho.2.2,ho.1,ho.2.1,by simp [g2],by simp [g8],by simp [g9],by simp [g10],by simp [g11],by simp [g13],by simp [g14],by simp [gq],rfl⟩
      ·try simp only[dc]at h85
       refine .skip ?_
       refine ⟨(q - 1).toNat,by omega,q - 1,r + Y / 4294967296,rfl,hst,by omega,by simp [g2],by simp [g8],by simp [g9],by simp [g10],by simp [g11],by simp [g13],by simp [g14],by simp,by simp,rfl⟩
     ·try simp only[dc]at h78
      have ho:=hD.out (by omega) (by omega) (by omega) (by omega) (by omega) (by omega) (.inl ⟨by omega,by omega⟩)
      rw [eY] at ho
      refine .exit ?_
      refine J19 _ ?_
      exact ⟨q,by omega,ho.2.2,ho.1,ho.2.1,by simp [g2],by simp [g8],by simp [g9],by simp [g10],by simp [g11],by simp [g13],by simp [g14],by simp [gq],rfl⟩

end Go.Proofs.YtaibemhdfhchfaaGreat

/- Walks: words moved up. -/
namespace Go.Proofs.YtaibemhdfhchfaaGreat
open Go Go.RowKit
set_option linter.unusedSimpArgs false
set_option linter.unusedVariables false
set_option maxRecDepth 100000
attribute [local simp] szT3 byT3 agT3 unT3 zoT3 szT25 byT25 agT25 unT25 zoT25 szT108 byT108 agT108 elT108 unT108 zoT108

set_option maxHeartbeats 2000000 in
theorem shifted_fo (w : List Int) (k : Nat) (dw : Dig 18446744073709551616 w) (hk : k ≤ 63) (hl : w.length ≤ 274877906944) : FO Tryz.prog 279 [Wd .u64 w,.int .i64 (k : Int)] 1 (wd .u64 (shW w (2 ^ k))):=by
 have hp1 : (1 : Int) ≤ 2 ^ k:=by have:=pow2_pos k; omega
 have c64 : (k : Int) ≤ 64:=by omega
 have hmin : min k 64 = k:=by omega
 have hmin2 : min (64 - k) 64 = 64 - k:=by omega
 have w9 : ((64 : Int) - (k : Int)).toNat = 64 - k:=by omega
 have f1 : ∀ x : Int,x.fdiv (2 ^ (64 - k)) = x / 2 ^ (64 - k):=fun x=>Int.fdiv_eq_ediv_of_nonneg _ (Int.le_of_lt (pow2_pos _))
 refine FO.body Tryz.func279 rfl (by simp [idfL,idf,idfLL_iff,idf_Wd']) (wd_pln _ _) 40 rfl fun nx K hK=>?_
 refine .q ?_
 refine .q ?_ (by simp (disch:=first|omega|(simp only[ln];omega)) [if_pos,len_Wd (P:=Tryz.prog) #[108] rfl elT108]; rfl)
 refine .sq fun K3 hK3=>?_
 refine .q ?_ (by simp (disch:=first|omega|(simp only[ln];omega)) [len_Wd (P:=Tryz.prog) #[108] rfl elT108]; rfl)
 refine .block ?_
 have et0 : ((w.length : Int) + 1).toNat = w.length + 1:=by omega
 have hs0 : List.replicate (w.length + 1) (0 : Int) = shS w (2 ^ k) 0:=by simp [shS,shR,List.replicate_succ]
 refine .loop (fun n s=>∃ i id : Nat,n = w.length - i ∧ i ≤ w.length ∧ s.env 1 = .int .i64 (k : Int) ∧ s.env 5 = .osl id 0 (w.length + 1) ∧ s.env 12 = Wd .u64 w ∧ s.env 13 = .int .i64 (w.length : Int) ∧ s.env 14 = .int .i64 (i : Int) ∧ s.heap id = some (1,wd .u64 (shS w (2 ^ k) i)) ∧ id < s.nx ∧ s.nt = 40) (w.length) (⟨0,nx,by omega,by omega,by simp,by simp [et0],by simp,by simp,by simp,by simp [et0,hs0],by simp,rfl⟩) ?_
 rintro n ⟨e,H,m,nt⟩ ⟨i,id,rfl,hi,h1,h5,h12,h13,h14,hH,hid,rfl⟩
 simp only [] at h1 h5 h12 h13 h14 hH hid
 obtain ⟨r1,r2,r3,r4,r5⟩:=shR_spec dw hp1 i
 have hsl:=shS_len dw hp1 hi
 have hsg:=shS_gt dw hp1 i
 refine .q ?_ (by simp (disch:=first|omega|(simp only[ln];omega)) [h13,h14]; rfl)
 refine .sq fun K6 hK6=>?_
 refine .c (fun h15=>?_) (fun h15=>?_)
 ·try simp only[dc]at h15
  have hi' : i < w.length:=by omega
  have gw:=dw.gt (by omega) i
  obtain ⟨st1,st2⟩:=sh_step hk gw.1 gw.2 r3 r4
  have m0 : 0 ≤ gt w i * 2 ^ k:=Int.mul_nonneg gw.1 (by omega)
  have e1:=shS_step dw hp1 hi'
  have hwm : IntKind.u64.wrap (gt w i * 2 ^ k) = gt w i * 2 ^ k % 18446744073709551616:=wrap_u64m _
  refine .skip ?_
  refine hK6 _ ?_
  refine .sq fun K7 hK7=>?_
  refine .block ?_
  refine .q ?_ (by simp (disch:=first|omega|(simp only[ln];omega)) [idx_WdD (P:=Tryz.prog) elT108 szT25,if_pos,h12,h14,ld_ip agT25]; rfl)
  refine .sq fun K9 hK9=>?_
  refine .df 9 ?_ (by simp (disch:=first|omega|(simp only[ln];omega)) [runDf.eq_def,runF1,runF2,stepF.eq_def,updo.eq_def,hupo.eq_def,opSto1.eq_def,idx_WdD (P:=Tryz.prog) elT108 szT25,if_pos,h1,h5,hH,hsl,hsg,hmin,IntKind.bits,hwm,st1]; rfl)
  refine hK9 _ ?_
  refine .q ?_ (by simp (disch:=first|omega|(simp only[ln];omega)) [h1]; rfl)
  refine .c (fun h29=>?_) (fun h29=>?_)
  ·try simp only[dc]at h29
   refine .r ?_ (by simp (disch:=first|omega|(simp only[ln];omega)) [idx_WdD (P:=Tryz.prog) elT108 szT25,if_pos,h1,h5,hsl,w9,hmin2,f1,st2,IntKind.bits]; rfl)
   refine hK7 _ ?_
   refine .r ?_ (by simp (disch:=first|omega|(simp only[ln];omega)) [h14]; rfl)
   refine ⟨w.length - (i + 1),by omega,i + 1,id,rfl,by omega,by simp [h1],by simp [h5],by simp [h12],by simp [h13],by simp (disch:=omega) [h14],by simp [← e1],by simp; omega,rfl⟩
  ·try simp only[dc]at h29
   have hk0 : k = 0:=by omega
   have e0:=shS_step0 dw hp1 hi' (by rw [← st2]; subst hk0; simp; omega)
   refine .skip ?_
   refine hK7 _ ?_
   refine .r ?_ (by simp (disch:=first|omega|(simp only[ln];omega)) [h14]; rfl)
   refine ⟨w.length - (i + 1),by omega,i + 1,id,rfl,by omega,by simp [h1],by simp [h5],by simp [h12],by simp [h13],by simp (disch:=omega) [h14],by simp [← e0],by simp; omega,rfl⟩
 ·try simp only[dc]at h15
  obtain rfl : i = w.length:=by omega
  refine .exit ?_
  refine hK3 _ ?_
  refine .q ?_ (by simp (disch:=first|omega|(simp only[ln];omega)) [h5]; rfl)
  refine .ret ?_
  exact hK _ _ (id) _ _ trivial ((Fin.mk (r:=.osl id 0 (w.length + 1)) (by simp [aRes,aResL,aRes1])).cast (by rw [wd_len,shW,hsl])) (by simp [hH,shW])

end Go.Proofs.YtaibemhdfhchfaaGreat

/- Walks: words trimmed in place. -/
namespace Go.Proofs.YtaibemhdfhchfaaGreat
open Go Go.RowKit
set_option linter.unusedSimpArgs false
set_option linter.unusedVariables false
set_option maxRecDepth 100000
attribute [local simp] szT3 byT3 agT3 unT3 zoT3 szT25 byT25 agT25 unT25 zoT25 szT108 byT108 agT108 elT108 unT108 zoT108

set_option maxHeartbeats 1000000 in
theorem trim_ac (l : List Int) (id N : Nat) (H : Heap) (nx : Nat) (hH : H id = some (1,wd .u64 l)) (hN : N ≤ l.length) (hl : l.length ≤ 1099511627776) : ACall Tryz.prog 240 [.osl id 0 N] H nx (fun r H' nx'=>r = .osl id 0 (trimW (l.take N)).length ∧ H' = H ∧ nx ≤ nx'):=by
 refine .b Tryz.func240 21 fun K hK=>?_
 refine .q ?_
 refine .sq fun K2 hK2=>?_
 refine .block ?_
 refine .loop (fun n s=>∃ q,n = q ∧ q ≤ N ∧ trimW (l.take q) = trimW (l.take N) ∧ s.env 0 = .osl id 0 q ∧ s.heap = H ∧ nx ≤ s.nx ∧ s.nt = 21) (N) (⟨N,rfl,Nat.le_refl _,rfl,by simp,rfl,by simp,rfl⟩) ?_
 rintro n ⟨e,H2,m,nt⟩ ⟨q,rfl,hq,ht,h0,rfl,hm,rfl⟩
 simp only [] at h0 hm hH
 refine .sq fun K3 hK3=>?_
 refine .sq fun K4 hK4=>?_
 rcases Nat.eq_zero_or_pos n with rfl | hn0
 ·refine .r ?_ (by simp (disch:=first|omega|(simp only[ln];omega)) [idx_WdD (P:=Tryz.prog) elT108 szT25,if_pos,len_Wd (P:=Tryz.prog) #[108] rfl elT108,h0,hH]; rfl)
  refine hK4 _ ?_
  refine .c (fun h14=>?_) (fun h14=>?_)
  ·simp at h14
  ·try simp only[dc]at h14
   refine .exit ?_
   refine hK2 _ ?_
   refine .q ?_ (by simp (disch:=first|omega|(simp only[ln];omega)) [h0]; rfl)
   refine .ret ?_
   exact hK _ _ _ _ _ trivial (Fin.mk (r:=.osl id 0 (trimW (l.take N)).length) (by simp [aRes,aResL,aRes1,← ht,trimW])) (⟨rfl,rfl,hm⟩)
 ·obtain ⟨k,rfl⟩ : ∃ k,n = k + 1:=⟨n - 1,by omega⟩
  have htk : l.take (k + 1) = l.take k ++ [gt l k]:=take_succ_gt (by omega)
  refine .r ?_ (by simp (disch:=first|omega|(simp only[ln];omega)) [idx_WdD (P:=Tryz.prog) elT108 szT25,if_pos,len_Wd (P:=Tryz.prog) #[108] rfl elT108,h0,hH,ld_ip agT25]; rfl)
  refine hK4 _ ?_
  refine .c (fun h14=>?_) (fun h14=>?_)
  ·try simp only[dc]at h14
   have hx : gt l k = 0:=by simpa using h14
   refine .skip ?_
   refine hK3 _ ?_
   refine .block ?_
   refine .r ?_ (by simp (disch:=first|omega|(simp only[ln];omega)) [if_pos,len_Wd (P:=Tryz.prog) #[108] rfl elT108,h0,hH]; rfl)
   refine ⟨k,by omega,k,rfl,by omega,?_,by simp,rfl,hm,rfl⟩
   rw [← ht,htk,hx,trimW_concat_zero]
  ·try simp only[dc]at h14
   have hx : gt l k ≠ 0:=by simpa using h14
   refine .exit ?_
   refine hK2 _ ?_
   refine .q ?_ (by simp (disch:=first|omega|(simp only[ln];omega)) [h0]; rfl)
   refine .ret ?_
   exact hK _ _ _ _ _ trivial (Fin.mk (r:=.osl id 0 (trimW (l.take N)).length) (by simp [aRes,aResL,aRes1,← ht,htk,trimW_concat_pos _ _ hx]; omega)) (⟨rfl,rfl,hm⟩)

end Go.Proofs.YtaibemhdfhchfaaGreat
