/- Walks: the reference's shifts. -/
import Derived.Test.YtjbbbkfdcegfmaaGreatG15

namespace Go.Proofs.YtjbbbkfdcegfmaaGreat
open Go Go.RowKit
set_option linter.unusedSimpArgs false
set_option linter.unusedVariables false
set_option maxRecDepth 100000
attribute [local simp] szT2 byT2 agT2 unT2 zoT2 szT3 byT3 agT3 unT3 zoT3 szT4 byT4 agT4 unT4 zoT4 szT52 byT52 agT52 unT52 zoT52 szT60 byT60 agT60 flT60 fdT60_0 fdT60_1 fdT60_2 fdT60_3 zoT60 szT103 byT103 agT103 elT103 unT103 zoT103 szT105 byT105 agT105 flT105 fdT105_0 fdT105_1 zoT105 szT216 byT216 agT216 unT216 zoT216 szT223 byT223 agT223 unT223 zoT223 srT103 ixT103 lnT103

theorem fld_numS (z : Int) : aFld Tryz.prog 105 (numS z) 1 = some (Wd .u32 (dg z)):=by
  simp only [aFld,numS,fdT105_1,agT103]; rfl

section
attribute [local simp] idf_numS cells_numS numS_fold
set_option maxHeartbeats 2000000 in
theorem l1Left_fc (d : List Int) (dd : Dig 4294967296 d) (q k : Nat) (hq : q ≤ 1073741824) (hk : k < 32) (hd : d.length ≤ 68719476736) : FC Tryz.prog 171 [Wd .u32 d,.int .i64 ((32 * q + k : Nat) : Int)] (Wd .u32 (dg (4294967296 ^ q * (val 4294967296 d * 2 ^ k)))):=by
 have hp1 : (1 : Int) ≤ 2 ^ k:=by have : (0 : Int) < 2 ^ k:=Int.pow_pos (by omega); omega
 have hp2 : (2 : Int) ^ k ≤ 2147483648:=by
   have : (2 : Nat) ^ k ≤ 2 ^ 31:=Nat.pow_le_pow_right (by omega) (by omega)
   have e : (((2 ^ k : Nat)) : Int) = (2 : Int) ^ k:=by simp
   rw [← e]; have e2 : (2 : Nat) ^ 31 = 2147483648:=rfl; omega
 have hls:=leftL_spec dd q hp1 hp2
 have ht1 : ((32 * q + k : Nat) : Int).tdiv 32 = q:=by rw [Int.tdiv_eq_ediv_of_nonneg (by omega)]; omega
 have ht2 : ((32 * q + k : Nat) : Int).tmod 32 = k:=by rw [Int.tmod_eq_emod_of_nonneg (by omega)]; omega
 have hmin : min k 64 = k:=by omega
 generalize hN : ((32 * q + k : Nat) : Int) = N at *
 refine .b Tryz.func171 47 (fun nx K hK=>?_)
 refine .q ?_
 refine .q ?_ (by simp (disch:=first|exact zd|fail) [if_pos,ht1]; rfl)
 refine .q ?_ (by simp (disch:=first|exact zd|fail) [ht2]; rfl)
 refine .q ?_
 refine .sq fun K5 hK5=>?_
 refine .q ?_
 refine .block ?_
 refine .loop (fun n s=>∃ i id,n = d.length - i ∧ i ≤ d.length ∧ s.env 0 = Wd .u32 d ∧ s.env 5 = .osl id 0 (q + i) ∧ s.env 6 = .int .u64 (k : Int) ∧ s.env 7 = .int .u64 (leftR d (2 ^ k) i).2 ∧ s.env 8 = .int .i64 (i : Int) ∧ s.heap id = some (1,wd .u32 (List.replicate q 0 ++ (leftR d (2 ^ k) i).1)) ∧ id < s.nx ∧ s.nt = 47) (d.length) (⟨0,nx,by omega,by omega,by simp,by simp,by simp,by simp [leftR],by simp,by simp [leftR],by simp,rfl⟩) ?_
 rintro n ⟨e,H,m,nt⟩ ⟨i,id,rfl,hi,h0,h5,h6,h7,h8,hH,hid,rfl⟩
 simp only [] at h0 h5 h6 h7 h8 hH hid
 obtain ⟨r1,r2,r3,r4,r5⟩:=leftR_spec dd hp1 i
 have hlen : (List.replicate q (0 : Int) ++ (leftR d (2 ^ k) i).1).length = q + i:=by simp [r1]
 have ht : List.take (q + i) (List.replicate q (0 : Int) ++ (leftR d (2 ^ k) i).1) = List.replicate q (0 : Int) ++ (leftR d (2 ^ k) i).1:=List.take_of_length_le (by omega)
 refine .sq fun K7 hK7=>?_
 refine .q ?_ (by simp (disch:=first|exact zd|fail) [h0,h8]; rfl)
 refine .c (fun h18=>?_) (fun h18=>?_)
 ·try simp only[dc]at h18
  have hi' : i < d.length:=by omega
  have gd:=dd.gt (by omega) i
  have hm0 : 0 ≤ gt d i * 2 ^ k:=Int.mul_nonneg gd.1 (by omega)
  have hm1 : gt d i * 2 ^ k ≤ 4294967295 * 2147483648:=Int.mul_le_mul (by omega) hp2 (by omega) (by omega)
  have hor:=or_join r3 r4 gd.1 (by omega) (by omega)
  refine .skip ?_
  refine hK7 _ ?_
  refine .sq fun K9 hK9=>?_
  refine .block ?_
  refine .q ?_ (by simp (disch:=first|exact zd|fail) [if_pos,h0,h6,h7,h8,hmin,hor,IntKind.bits,ld_ip agT223]; rfl)
  refine .sq fun K11 hK11=>?_
  refine .region ?_
  refine .k 4 ?_ (by simp (disch:=first|exact zd|fail) [List.take_succ_cons,List.take_zero,h5,hH,r1,ht,hlen,Nat.ne_of_lt hid]; rfl)
  refine AOPS.opapp (by simp (disch:=first|exact zd|fail) [if_pos,wd_append,wd_take,wd_drop,List.nil_append,h5,hH,r1,ht,hlen,Nat.ne_of_lt hid]; first | rfl | exact ⟨rfl,rfl⟩ | exact ⟨rfl,rfl,rfl⟩) (by simp) (by simp) ?_
  simp only [puts_some,hdrop]
  refine .e ?_ (by simp (disch:=first|exact zd|fail) [h5,hH,r1,ht,hlen,Nat.ne_of_lt hid]; rfl)
  refine hK11 _ ?_
  refine .r ?_ (by simp (disch:=first|exact zd|fail) [IntKind.bits,Int.fdiv_eq_ediv_of_nonneg]; rfl)
  refine hK9 _ ?_
  refine .r ?_ (by simp (disch:=first|exact zd|fail) [h8]; rfl)
  refine ⟨d.length - (i + 1),by omega,i + 1,m + 1,rfl,by omega,by simp [h0],by simp [r1] <;> omega,by simp [h6],by simp [leftR],by simp (disch:=omega) [h8],by simp [leftR,ht,wrap_u32m],by simp,rfl⟩
 ·try simp only[dc]at h18
  obtain rfl : i = d.length:=by omega
  refine .exit ?_
  refine hK5 _ ?_
  refine .sq fun K12 hK12=>?_
  refine .q ?_ (by simp (disch:=first|exact zd|fail) [h7]; rfl)
  refine .c (fun h38=>?_) (fun h38=>?_)
  ·try simp only[dc]at h38
   have hc : 0 < (leftR d (2 ^ k) d.length).2:=by omega
   have hm2 : (leftR d (2 ^ k) d.length).2 % 4294967296 = (leftR d (2 ^ k) d.length).2:=Int.emod_eq_of_lt r3 (by omega)
   refine .region ?_
   refine .k 4 ?_ (by simp (disch:=first|exact zd|fail) [List.take_succ_cons,List.take_zero,h5,h7,hH,r1,ht,hlen,Nat.ne_of_lt hid]; rfl)
   refine AOPS.opapp (by simp (disch:=first|exact zd|fail) [if_pos,wd_append,wd_take,wd_drop,List.nil_append,h5,h7,hH,r1,ht,hlen,Nat.ne_of_lt hid]; first | rfl | exact ⟨rfl,rfl⟩ | exact ⟨rfl,rfl,rfl⟩) (by simp) (by simp) ?_
   simp only [puts_some,hdrop]
   refine .e ?_ (by simp (disch:=first|exact zd|fail) [h5,h7,hH,r1,ht,hlen,Nat.ne_of_lt hid]; rfl)
   refine hK12 _ ?_
   refine .sq fun K14 hK14=>?_
   refine AWP.region ?_
   refine AOPS.runk 1 (by simp (disch:=first|exact zd|fail) [List.take_succ_cons,List.take_zero,h5]; rfl) ?_
   simp only [List.drop_succ_cons,List.drop_zero]
   refine AOPS.frz1 44 (m + 1) 1 (wd .u32 (leftL d q (2 ^ k))) (Wd .u32 (leftL d q (2 ^ k))) (by simp [leftL,hc,wrap_u32m,ht,hm2,hH]) (by simp [h5,r1]; first | exact fz_wd (by simp [leftL,hc,r1]; try omega) | exact isl_take_wd (by simp [leftL,hc,r1]; try omega)) ?_
   refine AOPS.fcall (l1Trim_fc false (leftL d q (2 ^ k)) (by omega) hls.1) rfl rfl rfl hb176 (by simp) (by simp) (by simp) ?_
   simp only [puts_some]
   refine AOPS.opval (Wd .u32 (dg (sg false (val 4294967296 (leftL d q (2 ^ k)))))) (fld_numS _) (by simp) (by simp) ?_
   simp only [puts_some]
   refine AOPS.all (by simp; rfl) ?_
   refine hK14 _ ?_
   refine .ret ?_
   exact hK _ _ _ _ trivial ((Fin.mk (r:=Wd .u32 (dg (sg false (val 4294967296 (leftL d q (2 ^ k)))))) (by simp [aRes,aResL,aRes1])).cast (by rw [sg_false,hls.2.2]))
  ·try simp only[dc]at h38
   have hc : ¬ 0 < (leftR d (2 ^ k) d.length).2:=by omega
   have hm2 : True:=trivial
   refine .skip ?_
   refine hK12 _ ?_
   refine .sq fun K15 hK15=>?_
   refine AWP.region ?_
   refine AOPS.runk 1 (by simp (disch:=first|exact zd|fail) [List.take_succ_cons,List.take_zero,h5]; rfl) ?_
   simp only [List.drop_succ_cons,List.drop_zero]
   refine AOPS.frz1 44 (id) 1 (wd .u32 (leftL d q (2 ^ k))) (Wd .u32 (leftL d q (2 ^ k))) (by simp [leftL,hc,wrap_u32m,ht,hm2,hH]) (by simp [h5,r1]; first | exact fz_wd (by simp [leftL,hc,r1]; try omega) | exact isl_take_wd (by simp [leftL,hc,r1]; try omega)) ?_
   refine AOPS.fcall (l1Trim_fc false (leftL d q (2 ^ k)) (by omega) hls.1) rfl rfl rfl hb176 (by simp) (by simp) (by simp) ?_
   simp only [puts_some]
   refine AOPS.opval (Wd .u32 (dg (sg false (val 4294967296 (leftL d q (2 ^ k)))))) (fld_numS _) (by simp) (by simp) ?_
   simp only [puts_some]
   refine AOPS.all (by simp; rfl) ?_
   refine hK15 _ ?_
   refine .ret ?_
   exact hK _ _ _ _ trivial ((Fin.mk (r:=Wd .u32 (dg (sg false (val 4294967296 (leftL d q (2 ^ k)))))) (by simp [aRes,aResL,aRes1])).cast (by rw [sg_false,hls.2.2]))
end

end Go.Proofs.YtjbbbkfdcegfmaaGreat

/- Walks: the reference's divisions. -/
namespace Go.Proofs.YtjbbbkfdcegfmaaGreat
open Go Go.RowKit
set_option linter.unusedSimpArgs false
set_option linter.unusedVariables false
set_option maxRecDepth 100000
attribute [local simp] szT2 byT2 agT2 unT2 zoT2 szT3 byT3 agT3 unT3 zoT3 szT4 byT4 agT4 unT4 zoT4 szT103 byT103 agT103 elT103 unT103 zoT103 szT105 byT105 agT105 flT105 fdT105_0 fdT105_1 zoT105 szT216 byT216 agT216 unT216 zoT216 szT223 byT223 agT223 unT223 zoT223 srT103 ixT103 lnT103

theorem Bg.mod {j n : Nat} (h : Bg j (n : Int)) (x : Nat) (hn : n ≠ 0) : Bg j ((x % n : Nat) : Int):=by
  unfold Bg at *
  rw [Int.natAbs_natCast] at *
  have:=Nat.mod_lt x (Nat.pos_of_ne_zero hn)
  omega
theorem sbound {a d N k j : Nat} (hd : d ≠ 0) (hna : bitLen a ≤ 64 * j) (hN : bitLen a = bitLen d + N) (hk : k ≤ N) : Bg j ((d * 2 ^ k : Nat) : Int):=by
  unfold Bg
  simp only [Int.natAbs_natCast]
  have h1 : d < 2 ^ bitLen d:=bitLen_le.1 (Nat.le_refl _)
  have h2 : d * 2 ^ k < 2 ^ bitLen d * 2 ^ k:=Nat.mul_lt_mul_of_pos_right h1 (Nat.two_pow_pos k)
  rw [← Nat.pow_add] at h2
  have h3 : (2 : Nat) ^ (bitLen d + k) ≤ 2 ^ (64 * j):=Nat.pow_le_pow_right (by omega) (by omega)
  have : (2 : Nat) ^ (64 * j) = 18446744073709551616 ^ j:=by rw [Nat.pow_mul]
  omega
theorem l1LeftI (d k : Nat) (hk : k ≤ 34359738367) (hl : (dg (d : Int)).length ≤ 68719476736) : FC Tryz.prog 171 [Wd .u32 (dg (d : Int)),.int .i64 (k : Int)] (Wd .u32 (dg ((d * 2 ^ k : Nat) : Int))):=by
  have h:=l1Left_fc (dg (d : Int)) (dg_dig _) (k / 32) (k % 32) (by omega) (by omega) hl
  rw [show 32 * (k / 32) + k % 32 = k from by omega,dg_val,Int.natAbs_natCast,shl_val] at h
  rw [Int.natCast_mul,pow2_cast]
  exact h

section
attribute [local simp] idf_numS cells_numS numS_fold
set_option maxHeartbeats 2000000 in
theorem l1DivAbs_fc {j : Nat} (a d : Nat) (hd : d ≠ 0) (ha : Bg j a) (hb : Bg j d) (hj : j ≤ 16777216) : FC Tryz.prog 175 [Wd .u32 (dg (a : Int)),Wd .u32 (dg (d : Int))] (.tup [Wd .u32 (dg ((a / d : Nat) : Int)),Wd .u32 (dg ((a % d : Nat) : Int))]):=by
 have la:=ha.len32
 have lb:=hb.len32
 have hna : bitLen a ≤ 64 * j:=by
   rw [bitLen_le]; unfold Bg at ha
   have : (2 : Nat) ^ (64 * j) = 18446744073709551616 ^ j:=by rw [Nat.pow_mul]
   rw [this]; simpa using ha
 have hnb : bitLen d ≤ 64 * j:=by
   rw [bitLen_le]; unfold Bg at hb
   have : (2 : Nat) ^ (64 * j) = 18446744073709551616 ^ j:=by rw [Nat.pow_mul]
   rw [this]; simpa using hb
 refine .b Tryz.func175 59 (fun nx K hK=>?_)
 refine .q ?_
 refine .sq fun K2 hK2=>?_
 refine .region ?_
 refine .kf 1 (l1Bits_fc ha (by omega)) hb169 ?_
 refine .kf 1 (l1Bits_fc hb (by omega)) hb169 ?_
 refine .e ?_
 refine hK2 _ ?_
 refine .sq fun K3 hK3=>?_
 refine .q ?_
 refine .c (fun h17=>?_) (fun h17=>?_)
 ·try simp only[dc]at h17
  have hlt : a < d:=bitLen_lt (by omega)
  refine .q ?_
  refine .ret ?_
  exact hK _ _ _ _ trivial (((Fin.mk (r:=.tup [.nsl,Wd .u32 (dg (a : Int))]) (by simp [aRes,aResL,aRes1])).weak (r':=.tup [Wd .u32 [],Wd .u32 (dg (a : Int))]) (fun _ _ _ _ h=>by
    obtain ⟨vs,rfl,u,r,e,h1,h2⟩:=h
    exact ⟨vs,rfl,u,r,e,nsl_Wd .u32 h1,h2⟩)).cast (by rw [Nat.div_eq_of_lt hlt,Nat.mod_eq_of_lt hlt,show ((0 : Nat) : Int) = 0 from rfl,dg_zero]))
 ·try simp only[dc]at h17
  obtain ⟨N,hN⟩ : ∃ N,bitLen a = bitLen d + N:=⟨bitLen a - bitLen d,by omega⟩
  have hN2 : N < bitLen a:=by have:=bitLen_ne hd; omega
  have eN : (bitLen a : Int) - (bitLen d : Int) = N:=by omega
  have hst:=DvS.start hd hN
  have eq : (N : Int).tdiv 32 = ((N / 32 : Nat) : Int):=by rw [Int.tdiv_eq_ediv_of_nonneg (by omega)]; omega
  have etn : ((N : Int) / 32 + 1).toNat = N / 32 + 1:=by omega
  refine .skip ?_
  refine hK3 _ ?_
  refine .q ?_ (by simp (disch:=first|exact zd|fail) [if_pos,eN,eq]; rfl)
  refine .q ?_ (by simp (disch:=first|exact zd|fail) [eN]; rfl)
  refine .sq fun K8 hK8=>?_
  refine .q ?_ (by simp (disch:=first|exact zd|fail) [eN]; rfl)
  refine .block ?_
  refine .loop (fun n s=>∃ (i id : Nat) (q : List Int) (R : Int),n = i ∧ i ≤ N + 1 ∧ DvS a d q R i ∧ q.length = N / 32 + 1 ∧ R ≤ a ∧ s.env 1 = Wd .u32 (dg (d : Int)) ∧ s.env 7 = .osl id 0 (N / 32 + 1) ∧ s.env 8 = Wd .u32 (dg R) ∧ s.env 9 = .int .i64 ((i : Int) - 1) ∧ s.heap id = some (1,wd .u32 q) ∧ id < s.nx ∧ s.nt = 59) (N + 1) (⟨N + 1,nx,_,_,rfl,by omega,hst,by simp,by omega,by simp,by simp [etn],by simp,by simp,by simp [etn],by simp,rfl⟩) ?_
  rintro n ⟨e,H,m,nt⟩ ⟨i,id,q,R,rfl,hi,hS,hq,hR,h1,h7,h8,h9,hH,hid,rfl⟩
  simp only [] at h1 h7 h8 h9 hH hid
  have hR0:=hS.nn
  have bR : Bg j R:=by unfold Bg at *; have:=Int.natAbs_of_nonneg hR0; simp at ha; omega
  have lR:=bR.len32
  refine .sq fun K10 hK10=>?_
  refine .q ?_ (by simp (disch:=first|exact zd|fail) [h9]; rfl)
  refine .c (fun h26=>?_) (fun h26=>?_)
  ·try simp only[dc]at h26
   obtain ⟨k,rfl⟩ : ∃ k,n = k + 1:=⟨n - 1,by omega⟩
   have e9 : ((k + 1 : Nat) : Int) - 1 = k:=by omega
   rw [e9] at h9
   have eqk : (k : Int).tdiv 32 = ((k / 32 : Nat) : Int):=by rw [Int.tdiv_eq_ediv_of_nonneg (by omega)]; omega
   have eqm : (k : Int).tmod 32 = ((k % 32 : Nat) : Int):=by rw [Int.tmod_eq_emod_of_nonneg (by omega)]; omega
   have tq : ((k : Int) / 32).toNat = k / 32:=by omega
   have tm : ((k : Int) % 32).toNat = k % 32:=by omega
   have wp : IntKind.u32.wrap (2 ^ (k % 32)) = 2 ^ (k % 32):=by have:=pow2_pos (k % 32); exact wrap_u32s (by omega) hS.or.2.2
   have hs:=sbound hd hna hN (show k ≤ N by omega)
   have bs : Bg j ((d * 2 ^ k : Nat) : Int):=hs
   have ls:=bs.len32
   have es : ((d * 2 ^ k : Nat) : Int) = (d : Int) * 2 ^ k:=by rw [Int.natCast_mul,pow2_cast]
   refine .skip ?_
   refine hK10 _ ?_
   refine .sq fun K12 hK12=>?_
   refine .block ?_
   refine .sq fun K13 hK13=>?_
   refine .region ?_
   refine .kf 2 (l1LeftI d k (by omega) (by omega)) hb171 ?_ (by simp (disch:=first|exact zd|fail) [List.take_succ_cons,List.take_zero,h1,h9]; rfl) (ha:=by simp (disch:=first|exact zd|fail) [idf_Wd',h1,h9])
   refine .e ?_ (by simp (disch:=first|exact zd|fail) [h1,h9]; rfl)
   refine hK13 _ ?_
   refine .sq fun K14 hK14=>?_
   refine .region ?_
   refine .kf 2 (l1CmpAbs_fc (dg R) (dg ((d * 2 ^ k : Nat) : Int)) (by omega) (by omega)) hb170 ?_ (by simp (disch:=first|exact zd|fail) [List.take_succ_cons,List.take_zero,h8]; rfl) (ha:=by simp (disch:=first|exact zd|fail) [idf_Wd',h8])
   refine .e ?_ (by simp (disch:=first|exact zd|fail) [h8]; rfl)
   refine hK14 _ ?_
   refine .c (fun h35=>?_) (fun h35=>?_)
   ·try simp only[dc]at h35
    have hle : (d : Int) * 2 ^ k ≤ R:=by
      have:=cmpS_dg R ((d * 2 ^ k : Nat) : Int)
      rw [es] at this
      have hp:=pow2_pos k
      have : 0 ≤ (d : Int) * 2 ^ k:=Int.mul_nonneg (by omega) (by omega)
      omega
    have hsub:=subS_spec (dg_dig R) (dg_dig ((d * 2 ^ k : Nat) : Int)) (dg_len_mono (by rw [es]; omega)) (by rw [dg_val,dg_val,es]; omega)
    rw [dg_val,dg_val] at hsub
    have hT:=l1Trim_fc false (subS (dg R) (dg ((d * 2 ^ k : Nat) : Int))) (by omega) hsub.1
    rw [hsub.2.2,sg_false,es] at hT
    rw [show (R.natAbs : Int) - (((d : Int) * 2 ^ k).natAbs : Int) = R - (d : Int) * 2 ^ k from by omega] at hT
    refine .sq fun K15 hK15=>?_
    refine AWP.region ?_
    refine AOPS.runk 2 (by simp (disch:=first|exact zd|fail) [List.take_succ_cons,List.take_zero,h8]; rfl) ?_
    simp only [List.drop_succ_cons,List.drop_zero]
    refine AOPS.fcall (l1SubAbs_fc (dg R) (dg ((d * 2 ^ k : Nat) : Int)) (by omega) (dg_dig _) (dg_dig _)) rfl rfl rfl hb172 (by simp [h8,idf_Wd']) (by simp) (by simp) ?_
    simp only [puts_some]
    refine AOPS.fcall hT rfl rfl rfl hb176 (by simp) (by simp) (by simp) ?_
    simp only [puts_some]
    refine AOPS.opval (Wd .u32 (dg (R - (d : Int) * 2 ^ k))) (fld_numS _) (by simp) (by simp) ?_
    simp only [puts_some]
    refine AOPS.all (by simp; rfl) ?_
    refine hK15 _ ?_
    refine .r ?_ (by simp (disch:=first|exact zd|fail) [if_pos,h7,h9,hH,hq,eqk,eqm,ld_ip agT223,hS.or.1,IntKind.bits]; rfl)
    refine hK12 _ ?_
    refine .r ?_ (by simp (disch:=first|exact zd|fail) [h9]; rfl)
    refine ⟨k,by omega,k,id,q.set (k / 32) (gt q (k / 32) + 2 ^ (k % 32)),R - (d : Int) * 2 ^ k,rfl,by omega,hS.take hle (by omega),by simp [hq],by omega,by simp [h1],by simp [h7],by simp,by simp [h9],by simp [tq,tm,wp,hS.or.1],by simpa using hid,rfl⟩
   ·try simp only[dc]at h35
    have hlt : R < (d : Int) * 2 ^ k:=by
      have:=cmpS_dg R ((d * 2 ^ k : Nat) : Int)
      rw [es] at this
      have hp:=pow2_pos k
      have : 0 ≤ (d : Int) * 2 ^ k:=Int.mul_nonneg (by omega) (by omega)
      omega
    refine .skip ?_
    refine hK12 _ ?_
    refine .r ?_ (by simp (disch:=first|exact zd|fail) [h9]; rfl)
    refine ⟨k,by omega,k,id,q,R,rfl,by omega,hS.skip hlt,hq,hR,by simp [h1],by simp [h7],by simp [h8],by simp [h9],by simp [hH],by simpa using hid,rfl⟩
  ·try simp only[dc]at h26
   obtain rfl : n = 0:=by omega
   obtain ⟨hd1,hd2⟩:=hS.done
   have hT:=l1Trim_fc false q (by omega) hS.dig
   rw [sg_false,hd1] at hT
   rw [hd2] at h8
   refine .exit ?_
   refine hK8 _ ?_
   refine .sq fun K16 hK16=>?_
   refine AWP.region ?_
   refine AOPS.runk 1 (by simp (disch:=first|exact zd|fail) [List.take_succ_cons,List.take_zero,h7,h8]; rfl) ?_
   simp only [List.drop_succ_cons,List.drop_zero]
   refine AOPS.frz1 55 id 1 (wd .u32 q) (Wd .u32 q) (by simp [hH]) (by simp [h7,← hq]; first | exact fz_wd rfl | exact isl_take_wd (Nat.le_refl _)) ?_
   refine AOPS.fcall hT rfl rfl rfl hb176 (by simp) (by simp) (by simp) ?_
   simp only [puts_some]
   refine AOPS.opval (Wd .u32 (dg ((a / d : Nat) : Int))) (fld_numS _) (by simp) (by simp) ?_
   simp only [puts_some]
   refine AOPS.all (by simp (disch:=first|exact zd|fail) [List.take_succ_cons,List.take_zero,h7,h8]; rfl) ?_
   refine hK16 _ ?_
   refine .ret ?_
   exact hK _ _ _ _ trivial (Fin.m)
set_option maxHeartbeats 2000000 in
theorem l1Gcd_fc {j : Nat} (a b : Int) (ha : Bg j a) (hb : Bg j b) (hj : j ≤ 16777216) : FC Tryz.prog 133 [numS a,numS b] (numS ((Int.gcd a b : Nat) : Int)):=by
 refine .b Tryz.func133 26 (fun nx K hK=>?_)
 refine .q ?_
 refine .q ?_
 refine .q ?_
 refine .sq fun K4 hK4=>?_
 refine .block ?_
 refine .loop (fun n s=>∃ x y : Nat,n = y ∧ Nat.gcd x y = Int.gcd a b ∧ Bg j x ∧ Bg j y ∧ s.env 4 = .ptr (nx + 1 + 1) 0 0 ∧ s.env 5 = Wd .u32 (dg (x : Int)) ∧ s.env 6 = Wd .u32 (dg (y : Int)) ∧ s.heap (nx + 1 + 1) = some (2,[[.bool false,.nsl]]) ∧ s.nt = 26) (b.natAbs) (⟨a.natAbs,b.natAbs,rfl,rfl,ha.abs,hb.abs,by simp,by simp [dg_abs],by simp [dg_abs],by simp,rfl⟩) ?_
 rintro n ⟨e,H,m,nt⟩ ⟨x,y,rfl,hg,bx,bY,h4,h5,h6,hH,rfl⟩
 simp only [] at h4 h5 h6 hH
 have lx:=bx.len32
 have ly:=bY.len32
 refine .sq fun K5 hK5=>?_
 refine .q ?_ (by simp (disch:=first|exact zd|fail) [h6]; rfl)
 refine .c (fun h15=>?_) (fun h15=>?_)
 ·try simp only[dc]at h15
  have hy : n ≠ 0:=fun h=>by
    subst h
    simp [dg_zero] at h15
  refine .skip ?_
  refine hK5 _ ?_
  refine .block ?_
  refine .sq fun K7 hK7=>?_
  refine .region ?_
  refine .kf 2 (l1DivAbs_fc x n hy bx bY hj) hb175 ?_ (by simp (disch:=first|exact zd|fail) [List.take_succ_cons,List.take_zero,h5,h6]; rfl) (ha:=by simp (disch:=first|exact zd|fail) [idf_Wd',h5,h6])
  refine .e ?_ (by simp (disch:=first|exact zd|fail) [h5,h6]; rfl)
  refine hK7 _ ?_
  refine .r ?_ (by simp (disch:=first|exact zd|fail) [h6]; rfl)
  refine ⟨x % n,Nat.mod_lt _ (by omega),n,x % n,rfl,by rw [← hg,Nat.gcd_comm n,← Nat.gcd_rec,Nat.gcd_comm],bY,bY.mod x (by omega),by simp [h4],by simp [h6],by simp,by simp [hH],rfl⟩
 ·try simp only[dc]at h15
  have hy : n = 0:=by
    have : (dg (n : Int)).length = 0:=by omega
    rw [dg_len0] at this; omega
  subst hy
  rw [Nat.gcd_zero_right] at hg
  have hT:=l1Trim_fc false (dg (x : Int)) (by omega) (dg_dig _)
  rw [sg_false,dg_val,Int.natAbs_natCast,hg] at hT
  rw [hg] at h5
  refine .exit ?_
  refine hK4 _ ?_
  refine .sq fun K8 hK8=>?_
  refine .region ?_
  refine .kf 1 hT hb176 ?_ (by simp (disch:=first|exact zd|fail) [List.take_succ_cons,List.take_zero,h4,h5,hH]; rfl) (ha:=by simp (disch:=first|exact zd|fail) [idf_Wd',h4,h5,hH])
  refine .e ?_ (by simp (disch:=first|exact zd|fail) [h4,h5,hH]; rfl)
  refine hK8 _ ?_
  refine .ret ?_
  exact hK _ _ _ _ trivial (Fin.mk (by simp (disch:=omega) [aRes,aResL,aRes1,h4]))
end

end Go.Proofs.YtjbbbkfdcegfmaaGreat

/- Walks: the quotient of 128 bits by 64. -/
namespace Go.Proofs.YtjbbbkfdcegfmaaGreat
open Go Go.RowKit
set_option linter.unusedSimpArgs false
set_option linter.unusedVariables false
set_option maxRecDepth 100000
attribute [local simp] szT3 byT3 agT3 unT3 zoT3 szT52 byT52 agT52 unT52 zoT52 szT216 byT216 agT216 unT216 zoT216

set_option maxHeartbeats 4000000 in
theorem div64_fc {hi lo y0 : Int} (h0 : 0 ≤ hi) (h1 : hi < y0) (hl0 : 0 ≤ lo) (hl : lo < 18446744073709551616) (hy : y0 < 18446744073709551616) : FC Tryz.prog 236 [.int .u64 hi,.int .u64 lo,.int .u64 y0] (.tup [.int .u64 ((hi * 18446744073709551616 + lo) / y0),.int .u64 ((hi * 18446744073709551616 + lo) % y0)]):=by
 obtain ⟨y,rfl⟩:=Int.eq_ofNat_of_zero_le (show 0 ≤ y0 by omega)
 obtain ⟨S,p,Y,U,X,hbl,hS,hp,hp0,hY,hYp,hY1,hY2,hhi0,hhi1,hor,hU0,hU,hX,hN⟩:=dv_norm h0 h1 hl0 hl (show y < 18446744073709551616 by omega)
 have hX0 : 0 ≤ X ∧ X < 18446744073709551616:=by omega
 have hwX : IntKind.u64.wrap (lo * 2 ^ S) = X:=by rw [wrap_u64m,hX]
 have hmin : min S 64 = S:=by omega
 have hmin2 : min (64 - S) 64 = 64 - S:=by omega
 have w8 : (64 : Int) - (bitLen y : Int) = S:=by omega
 have hyn : y ≠ 0:=by omega
 have c64 : (S : Int) ≤ 64:=by omega
 have w9 : ((64 : Int) - (S : Int)).toNat = 64 - S:=by omega
 have f1 : (lo.fdiv (2 ^ (64 - S))) = lo / 2 ^ (64 - S):=Int.fdiv_eq_ediv_of_nonneg _ (Int.le_of_lt (pow2_pos _))
 refine .b Tryz.func236 135 (fun nx K hK=>?_)
 refine .q ?_
 refine .sq fun K2 hK2=>?_
 refine .q ?_
 refine .c (fun h20=>?_) (fun h20=>?_)
 ·simp at h20; omega
 ·try simp only[dc]at h20
  refine .skip ?_
  refine hK2 _ ?_
  refine .sq fun K4 hK4=>?_
  refine .q ?_
  refine .c (fun h24=>?_) (fun h24=>?_)
  ·simp at h24; omega
  ·try simp only[dc]at h24
   refine .skip ?_
   refine hK4 _ ?_
   refine .sq fun K6 hK6=>?_
   refine .q ?_
   refine .c (fun h27=>?_) (fun h27=>?_)
   ·try simp only[dc]at h27
    have hi0 : hi = 0:=by simpa using h27
    subst hi0
    have tq1 : lo.tdiv (y : Int) = lo / y:=Int.tdiv_eq_ediv_of_nonneg hl0
    have tq2 : lo.tmod (y : Int) = lo % y:=Int.tmod_eq_emod_of_nonneg hl0
    have dn0 : 0 ≤ lo / (y : Int):=Int.ediv_nonneg hl0 (by omega)
    have dn1 : lo / (y : Int) ≤ lo:=Int.ediv_le_self _ hl0
    have dn2:=Int.emod_nonneg lo (show (y : Int) ≠ 0 by omega)
    have dn3:=Int.emod_lt_of_pos lo h1
    refine .sq fun K8 hK8=>?_
    refine .df 6 ?_ (by simp (disch:=first|exact zd|fail) [tq1,tq2,hyn]; rfl)
    refine hK8 _ ?_
    refine .ret ?_
    exact hK _ _ _ _ trivial ((Fin.m).cast (by simp))
   ·try simp only[dc]at h27
    refine .skip ?_
    refine hK6 _ ?_
    refine .sq fun K9 hK9=>?_
    refine .region ?_
    refine .kf 1 (lz64_fc y (by omega)) hb179 ?_ (by simp (disch:=first|exact zd|fail) [List.take_succ_cons,List.take_zero,w8]; rfl) (ha:=by simp (disch:=first|exact zd|fail) [idf_Wd',w8])
    refine .e ?_ (by simp (disch:=first|exact zd|fail) [w8]; rfl)
    refine hK9 _ ?_
    refine .q ?_ (by simp (disch:=first|exact zd|fail) [hmin,hY,IntKind.bits]; rfl)
    refine .q ?_ (by simp (disch:=first|exact zd|fail) [IntKind.bits,Int.fdiv_eq_ediv_of_nonneg]; rfl)
    refine .q ?_ (by simp (disch:=first|exact zd|fail) [and_low32]; rfl)
    refine .q ?_ (by simp (disch:=first|exact zd|fail) [hmin,hmin2,w9,hor,f1,c64,IntKind.bits]; rfl)
    refine .q ?_ (by simp (disch:=first|exact zd|fail) [hmin,hwX,IntKind.bits]; rfl)
    refine .q ?_ (by simp (disch:=first|exact zd|fail) [IntKind.bits,Int.fdiv_eq_ediv_of_nonneg]; rfl)
    refine .q ?_ (by simp (disch:=first|exact zd|fail) [and_low32]; rfl)
    have hy1n : Y / 4294967296 ≠ 0:=by omega
    have eY : Y / 4294967296 * 4294967296 + Y % 4294967296 = Y:=by omega
    have hD0:=DvH.start (y1:=Y / 4294967296) (y0:=Y % 4294967296) (u:=U) (un:=X / 4294967296) (by omega) (by omega) (by omega) hU0 (by omega) (by omega)
    have hd0:=hD0.q0
    have hd1:=hD0.qm
    have hd2:=hD0.r0
    have hd3:=hD0.e
    have tq : U.tdiv (Y / 4294967296) = U / (Y / 4294967296):=Int.tdiv_eq_ediv_of_nonneg hU0
    have dm:=Int.emod_lt_of_pos U (show 0 < Y / 4294967296 by omega)
    have dm2:=Int.mul_ediv_add_emod U (Y / 4294967296)
    rw [Int.mul_comm] at dm2
    have w16 : IntKind.u64.wrap (U - IntKind.u64.wrap (U / (Y / 4294967296) * (Y / 4294967296))) = U - U / (Y / 4294967296) * (Y / 4294967296):=by simp only [wrap_u64m]; omega
    refine .q ?_ (by simp (disch:=first|exact zd|fail) [tq,hy1n]; rfl)
    refine .q ?_
    refine .sq fun K19 hK19=>?_
    have J19 : ∀ s : St,(∃ q : Int,0 ≤ q ∧ q < 4294967296 ∧ 0 ≤ (U) * 4294967296 + X / 4294967296 - q * Y ∧ (U) * 4294967296 + X / 4294967296 - q * Y < Y ∧ s.env 2 = .int .u64 Y ∧ s.env 8 = .int .u64 (S : Int) ∧ s.env 9 = .int .u64 (Y / 4294967296) ∧ s.env 10 = .int .u64 (Y % 4294967296) ∧ s.env 11 = .int .u64 U ∧ s.env 13 = .int .u64 (X / 4294967296) ∧ s.env 14 = .int .u64 (X % 4294967296) ∧ s.env 15 = .int .u64 q ∧ s.nt = 135) → K19 s:=by
     rintro ⟨e,H,m,nt⟩ ⟨q1,q10,q11,k0,k1,g2,g8,g9,g10,g11,g13,g14,g15,rfl⟩
     simp only [] at g2 g8 g9 g10 g11 g13 g14 g15
     obtain ⟨R1,hR1⟩ : ∃ R1,U * 4294967296 + X / 4294967296 - q1 * Y = R1:=⟨_,rfl⟩
     rw [hR1] at k0 k1
     have hR1' : IntKind.u64.wrap (IntKind.u64.wrap (IntKind.u64.wrap (U * 4294967296) + X / 4294967296) - IntKind.u64.wrap (q1 * Y)) = R1:=by
       simp only [wrap_u64m]; omega
     refine hK19 _ ?_
     refine .q ?_ (by simp (disch:=first|exact zd|fail) [g11,g13,g15,g2,hR1']; rfl)
     have hy1n : Y / 4294967296 ≠ 0:=by omega
     have eY : Y / 4294967296 * 4294967296 + Y % 4294967296 = Y:=by omega
     have hD0:=DvH.start (y1:=Y / 4294967296) (y0:=Y % 4294967296) (u:=R1) (un:=X % 4294967296) (by omega) (by omega) (by omega) k0 (by omega) (by omega)
     have hd0:=hD0.q0
     have hd1:=hD0.qm
     have hd2:=hD0.r0
     have hd3:=hD0.e
     have tq : R1.tdiv (Y / 4294967296) = R1 / (Y / 4294967296):=Int.tdiv_eq_ediv_of_nonneg k0
     have dm:=Int.emod_lt_of_pos R1 (show 0 < Y / 4294967296 by omega)
     have dm2:=Int.mul_ediv_add_emod R1 (Y / 4294967296)
     rw [Int.mul_comm] at dm2
     have w16 : IntKind.u64.wrap (R1 - IntKind.u64.wrap (R1 / (Y / 4294967296) * (Y / 4294967296))) = R1 - R1 / (Y / 4294967296) * (Y / 4294967296):=by simp only [wrap_u64m]; omega
     refine .q ?_ (by simp (disch:=first|exact zd|fail) [g9,tq,hy1n]; rfl)
     refine .q ?_ (by simp (disch:=first|exact zd|fail) [g9]; rfl)
     refine .sq fun K23 hK23=>?_
     have J23 : ∀ s : St,(∃ q : Int,0 ≤ q ∧ q < 4294967296 ∧ 0 ≤ (R1) * 4294967296 + X % 4294967296 - q * Y ∧ (R1) * 4294967296 + X % 4294967296 - q * Y < Y ∧ s.env 2 = .int .u64 Y ∧ s.env 8 = .int .u64 (S : Int) ∧ s.env 9 = .int .u64 (Y / 4294967296) ∧ s.env 10 = .int .u64 (Y % 4294967296) ∧ s.env 14 = .int .u64 (X % 4294967296) ∧ s.env 15 = .int .u64 q1 ∧ s.env 17 = .int .u64 R1 ∧ s.env 18 = .int .u64 q ∧ s.nt = 135) → K23 s:=by
      clear g2 g8 g9 g10 g11 g13 g14 g15
      rintro ⟨e,H,m,nt⟩ ⟨q0,q00,q01,k2,k3,g2,g8,g9,g10,g14,g15,g17,g18,rfl⟩
      simp only [] at g2 g8 g9 g10 g14 g15 g17 g18
      obtain ⟨R0,hR0⟩ : ∃ R0,R1 * 4294967296 + X % 4294967296 - q0 * Y = R0:=⟨_,rfl⟩
      rw [hR0] at k2 k3
      have hR0' : IntKind.u64.wrap (IntKind.u64.wrap (IntKind.u64.wrap (R1 * 4294967296) + X % 4294967296) - IntKind.u64.wrap (q0 * Y)) = R0:=by
        simp only [wrap_u64m]; omega
      have hf:=dv_fin (N:=hi * 18446744073709551616 + lo) (y:=(y : Int)) (u:=U) (un1:=X / 4294967296) (un0:=X % 4294967296) (q1:=q1) (q0:=q0) (R1:=R1) (R0:=R0) hp0 (by rw [← hYp]; exact hR1) (by rw [← hYp]; exact hR0) (by rw [hN]; omega) k2 (by rw [← hYp]; exact k3)
      have f2 : R0.fdiv (2 ^ S) = R0 / 2 ^ S:=Int.fdiv_eq_ediv_of_nonneg _ (Int.le_of_lt (pow2_pos _))
      refine hK23 _ ?_
      refine .q ?_ (by simp (disch:=first|exact zd|fail) [g2,g8,g14,g15,g17,g18,hR0',hmin,IntKind.bits,f2]; rfl)
      refine .ret ?_
      exact hK _ _ _ _ trivial ((Fin.m).cast (by first | rw [hf.1,hf.2,hp] | skip))
     refine .block ?_
     refine .loop (fun n s=>∃ q r : Int,n = q.toNat ∧ DvH (Y / 4294967296) (Y % 4294967296) (R1) (X % 4294967296) q r ∧ r < 4294967296 ∧ s.env 2 = .int .u64 Y ∧ s.env 8 = .int .u64 (S : Int) ∧ s.env 9 = .int .u64 (Y / 4294967296) ∧ s.env 10 = .int .u64 (Y % 4294967296) ∧ s.env 14 = .int .u64 (X % 4294967296) ∧ s.env 15 = .int .u64 q1 ∧ s.env 17 = .int .u64 R1 ∧ s.env 18 = .int .u64 q ∧ s.env 16 = .int .u64 r ∧ s.nt = 135) (((R1) / (Y / 4294967296)).toNat) (⟨(R1) / (Y / 4294967296),(R1) - (R1) / (Y / 4294967296) * (Y / 4294967296),rfl,hD0,by omega,by simp [g2],by simp [g8],by simp [g9],by simp [g10],by simp [g14],by simp [g15],by simp,by simp,by simp [w16],rfl⟩) ?_
     rintro n ⟨e,H,m,nt⟩ ⟨q,r,rfl,hD,hr,g2,g8,g9,g10,g14,g15,g17,gq,gr,rfl⟩
     simp only [] at g2 g8 g9 g10 g14 g15 g17 gq gr
     have hr0:=hD.r0
     have hq0:=hD.q0
     have hqm:=hD.qm
     refine .sq fun K25 hK25=>?_
     refine .sq fun K26 hK26=>?_
     by_cases hqB : 4294967296 ≤ q
     ·have c1 : decide (4294967296 ≤ q) = true:=by simp; omega
      refine .r ?_ (by simp (disch:=first|exact zd|fail) [gq,c1]; rfl)
      refine hK26 _ ?_
      refine .c (fun h113=>?_) (fun h113=>?_)
      ·try simp only[dc]at h113
       have hq1:=hD.pos (by omega) (.inl hqB)
       have hst:=hD.step (by omega) (by omega) (by omega) (by omega) (by omega) (.inl hqB)
       refine .skip ?_
       refine hK25 _ ?_
       refine .block ?_
       refine .q ?_ (by simp (disch:=first|exact zd|fail) [gq]; rfl)
       refine .q ?_ (by simp (disch:=first|exact zd|fail) [gr,g9]; rfl)
       refine .q ?_
       refine .c (fun h120=>?_) (fun h120=>?_)
       ·try simp only[dc]at h120
        have ho:=hst.out (by omega) (by omega) (by omega) (by omega) (by omega) (by omega) (.inr ⟨by omega,by omega⟩)
        rw [eY] at ho
        refine .exit ?_
        refine J23 _ ?_
        exact ⟨q - 1,by omega,ho.2.2,ho.1,ho.2.1,by simp [g2],by simp [g8],by simp [g9],by simp [g10],by simp [g14],by simp [g15],by simp [g17],by simp [gq],rfl⟩
       ·try simp only[dc]at h120
        refine .skip ?_
        refine ⟨(q - 1).toNat,by omega,q - 1,r + Y / 4294967296,rfl,hst,by omega,by simp [g2],by simp [g8],by simp [g9],by simp [g10],by simp [g14],by simp [g15],by simp [g17],by simp,by simp,rfl⟩
      ·simp at h113
     ·have c1 : decide (4294967296 ≤ q) = false:=by simp; omega
      have m1 : q * (Y % 4294967296) ≤ 4294967295 * 4294967295:=Int.mul_le_mul (by omega) (by omega) (by omega) (by omega)
      have m0 : 0 ≤ q * (Y % 4294967296):=Int.mul_nonneg (by omega) (by omega)
      refine .r ?_ (by simp (disch:=first|exact zd|fail) [gq,gr,g10,g14,c1]; rfl)
      refine hK26 _ ?_
      refine .c (fun h113=>?_) (fun h113=>?_)
      ·try simp only[dc]at h113
       have hq1:=hD.pos (by omega) (.inr (by omega))
       have hst:=hD.step (by omega) (by omega) (by omega) (by omega) (by omega) (.inr (by omega))
       refine .skip ?_
       refine hK25 _ ?_
       refine .block ?_
       refine .q ?_ (by simp (disch:=first|exact zd|fail) [gq]; rfl)
       refine .q ?_ (by simp (disch:=first|exact zd|fail) [gr,g9]; rfl)
       refine .q ?_
       refine .c (fun h120=>?_) (fun h120=>?_)
       ·try simp only[dc]at h120
        have ho:=hst.out (by omega) (by omega) (by omega) (by omega) (by omega) (by omega) (.inr ⟨by omega,by omega⟩)
        rw [eY] at ho
        refine .exit ?_
        refine J23 _ ?_
        exact ⟨q - 1,by omega,ho.2.2,ho.1,ho.2.1,by simp [g2],by simp [g8],by simp [g9],by simp [g10],by simp [g14],by simp [g15],by simp [g17],by simp [gq],rfl⟩
       ·try simp only[dc]at h120
        refine .skip ?_
        refine ⟨(q - 1).toNat,by omega,q - 1,r + Y / 4294967296,rfl,hst,by omega,by simp [g2],by simp [g8],by simp [g9],by simp [g10],by simp [g14],by simp [g15],by simp [g17],by simp,by simp,rfl⟩
      ·try simp only[dc]at h113
       have ho:=hD.out (by omega) (by omega) (by omega) (by omega) (by omega) (by omega) (.inl ⟨by omega,by omega⟩)
       rw [eY] at ho
       refine .exit ?_
       refine J23 _ ?_
       exact ⟨q,by omega,ho.2.2,ho.1,ho.2.1,by simp [g2],by simp [g8],by simp [g9],by simp [g10],by simp [g14],by simp [g15],by simp [g17],by simp [gq],rfl⟩
    refine .block ?_
    refine .loop (fun n s=>∃ q r : Int,n = q.toNat ∧ DvH (Y / 4294967296) (Y % 4294967296) (U) (X / 4294967296) q r ∧ r < 4294967296 ∧ s.env 2 = .int .u64 Y ∧ s.env 8 = .int .u64 (S : Int) ∧ s.env 9 = .int .u64 (Y / 4294967296) ∧ s.env 10 = .int .u64 (Y % 4294967296) ∧ s.env 11 = .int .u64 U ∧ s.env 13 = .int .u64 (X / 4294967296) ∧ s.env 14 = .int .u64 (X % 4294967296) ∧ s.env 15 = .int .u64 q ∧ s.env 16 = .int .u64 r ∧ s.nt = 135) (((U) / (Y / 4294967296)).toNat) (⟨(U) / (Y / 4294967296),(U) - (U) / (Y / 4294967296) * (Y / 4294967296),rfl,hD0,by omega,by simp,by simp,by simp,by simp,by simp,by simp,by simp,by simp,by simp [w16],rfl⟩) ?_
    rintro n ⟨e,H,m,nt⟩ ⟨q,r,rfl,hD,hr,g2,g8,g9,g10,g11,g13,g14,gq,gr,rfl⟩
    simp only [] at g2 g8 g9 g10 g11 g13 g14 gq gr
    have hr0:=hD.r0
    have hq0:=hD.q0
    have hqm:=hD.qm
    refine .sq fun K33 hK33=>?_
    refine .sq fun K34 hK34=>?_
    by_cases hqB : 4294967296 ≤ q
    ·have c1 : decide (4294967296 ≤ q) = true:=by simp; omega
     refine .r ?_ (by simp (disch:=first|exact zd|fail) [gq,c1]; rfl)
     refine hK34 _ ?_
     refine .c (fun h78=>?_) (fun h78=>?_)
     ·try simp only[dc]at h78
      have hq1:=hD.pos (by omega) (.inl hqB)
      have hst:=hD.step (by omega) (by omega) (by omega) (by omega) (by omega) (.inl hqB)
      refine .skip ?_
      refine hK33 _ ?_
      refine .block ?_
      refine .q ?_ (by simp (disch:=first|exact zd|fail) [gq]; rfl)
      refine .q ?_ (by simp (disch:=first|exact zd|fail) [gr,g9]; rfl)
      refine .q ?_
      refine .c (fun h85=>?_) (fun h85=>?_)
      ·try simp only[dc]at h85
       have ho:=hst.out (by omega) (by omega) (by omega) (by omega) (by omega) (by omega) (.inr ⟨by omega,by omega⟩)
       rw [eY] at ho
       refine .exit ?_
       refine J19 _ ?_
       exact ⟨q - 1,by omega,ho.2.2,ho.1,ho.2.1,by simp [g2],by simp [g8],by simp [g9],by simp [g10],by simp [g11],by simp [g13],by simp [g14],by simp [gq],rfl⟩
      ·try simp only[dc]at h85
       refine .skip ?_
       refine ⟨(q - 1).toNat,by omega,q - 1,r + Y / 4294967296,rfl,hst,by omega,by simp [g2],by simp [g8],by simp [g9],by simp [g10],by simp [g11],by simp [g13],by simp [g14],by simp,by simp,rfl⟩
     ·simp at h78
    ·have c1 : decide (4294967296 ≤ q) = false:=by simp; omega
     have m1 : q * (Y % 4294967296) ≤ 4294967295 * 4294967295:=Int.mul_le_mul (by omega) (by omega) (by omega) (by omega)
     have m0 : 0 ≤ q * (Y % 4294967296):=Int.mul_nonneg (by omega) (by omega)
     refine .r ?_ (by simp (disch:=first|exact zd|fail) [gq,gr,g10,g13,c1]; rfl)
     refine hK34 _ ?_
     refine .c (fun h78=>?_) (fun h78=>?_)
     ·try simp only[dc]at h78
      have hq1:=hD.pos (by omega) (.inr (by omega))
      have hst:=hD.step (by omega) (by omega) (by omega) (by omega) (by omega) (.inr (by omega))
      refine .skip ?_
      refine hK33 _ ?_
      refine .block ?_
      refine .q ?_ (by simp (disch:=first|exact zd|fail) [gq]; rfl)
      refine .q ?_ (by simp (disch:=first|exact zd|fail) [gr,g9]; rfl)
      refine .q ?_
      refine .c (fun h85=>?_) (fun h85=>?_)
      ·try simp only[dc]at h85
       have ho:=hst.out (by omega) (by omega) (by omega) (by omega) (by omega) (by omega) (.inr ⟨by omega,by omega⟩)
       rw [eY] at ho
       refine .exit ?_
       refine J19 _ ?_
       exact ⟨q - 1,by omega,ho.2.2,ho.1,ho.2.1,by simp [g2],by simp [g8],by simp [g9],by simp [g10],by simp [g11],by simp [g13],by simp [g14],by simp [gq],rfl⟩
      ·try simp only[dc]at h85
       refine .skip ?_
       refine ⟨(q - 1).toNat,by omega,q - 1,r + Y / 4294967296,rfl,hst,by omega,by simp [g2],by simp [g8],by simp [g9],by simp [g10],by simp [g11],by simp [g13],by simp [g14],by simp,by simp,rfl⟩
     ·try simp only[dc]at h78
      have ho:=hD.out (by omega) (by omega) (by omega) (by omega) (by omega) (by omega) (.inl ⟨by omega,by omega⟩)
      rw [eY] at ho
      refine .exit ?_
      refine J19 _ ?_
      exact ⟨q,by omega,ho.2.2,ho.1,ho.2.1,by simp [g2],by simp [g8],by simp [g9],by simp [g10],by simp [g11],by simp [g13],by simp [g14],by simp [gq],rfl⟩

end Go.Proofs.YtjbbbkfdcegfmaaGreat

/- Walks: words moved up. -/
namespace Go.Proofs.YtjbbbkfdcegfmaaGreat
open Go Go.RowKit
set_option linter.unusedSimpArgs false
set_option linter.unusedVariables false
set_option maxRecDepth 100000
attribute [local simp] szT3 byT3 agT3 unT3 zoT3 szT52 byT52 agT52 unT52 zoT52 szT188 byT188 agT188 elT188 unT188 zoT188 srT188 ixT188 lnT188

set_option maxHeartbeats 2000000 in
theorem shifted_fo (w : List Int) (k : Nat) (dw : Dig 18446744073709551616 w) (hk : k ≤ 63) (hl : w.length ≤ 274877906944) : FO Tryz.prog 237 [Wd .u64 w,.int .i64 (k : Int)] 1 (wd .u64 (shW w (2 ^ k))):=by
 have hp1 : (1 : Int) ≤ 2 ^ k:=by have:=pow2_pos k; omega
 have c64 : (k : Int) ≤ 64:=by omega
 have hmin : min k 64 = k:=by omega
 have hmin2 : min (64 - k) 64 = 64 - k:=by omega
 have w9 : ((64 : Int) - (k : Int)).toNat = 64 - k:=by omega
 have f1 : ∀ x : Int,x.fdiv (2 ^ (64 - k)) = x / 2 ^ (64 - k):=fun x=>Int.fdiv_eq_ediv_of_nonneg _ (Int.le_of_lt (pow2_pos _))
 refine FO.body Tryz.func237 rfl (by simp [idfL,idf,idfLL_iff,idf_Wd']) (wd_pln _ _) 40 rfl fun nx K hK=>?_
 refine .q ?_
 refine .q ?_ (by simp (disch:=first|exact zd|fail) [if_pos]; rfl)
 refine .sq fun K3 hK3=>?_
 refine .q ?_
 refine .block ?_
 have et0 : ((w.length : Int) + 1).toNat = w.length + 1:=by omega
 have hs0 : List.replicate (w.length + 1) (0 : Int) = shS w (2 ^ k) 0:=by simp [shS,shR,List.replicate_succ]
 refine .loop (fun n s=>∃ i id : Nat,n = w.length - i ∧ i ≤ w.length ∧ s.env 1 = .int .i64 (k : Int) ∧ s.env 5 = .osl id 0 (w.length + 1) ∧ s.env 12 = Wd .u64 w ∧ s.env 13 = .int .i64 (w.length : Int) ∧ s.env 14 = .int .i64 (i : Int) ∧ s.heap id = some (1,wd .u64 (shS w (2 ^ k) i)) ∧ id < s.nx ∧ s.nt = 40) (w.length) (⟨0,nx,by omega,by omega,by simp,by simp [et0],by simp,by simp,by simp,by simp [et0,hs0],by simp,rfl⟩) ?_
 rintro n ⟨e,H,m,nt⟩ ⟨i,id,rfl,hi,h1,h5,h12,h13,h14,hH,hid,rfl⟩
 simp only [] at h1 h5 h12 h13 h14 hH hid
 obtain ⟨r1,r2,r3,r4,r5⟩:=shR_spec dw hp1 i
 have hsl:=shS_len dw hp1 hi
 have hsg:=shS_gt dw hp1 i
 refine .q ?_ (by simp (disch:=first|exact zd|fail) [h13,h14]; rfl)
 refine .sq fun K6 hK6=>?_
 refine .c (fun h15=>?_) (fun h15=>?_)
 ·try simp only[dc]at h15
  have hi' : i < w.length:=by omega
  have gw:=dw.gt (by omega) i
  obtain ⟨st1,st2⟩:=sh_step hk gw.1 gw.2 r3 r4
  have m0 : 0 ≤ gt w i * 2 ^ k:=Int.mul_nonneg gw.1 (by omega)
  have e1:=shS_step dw hp1 hi'
  have hwm : IntKind.u64.wrap (gt w i * 2 ^ k) = gt w i * 2 ^ k % 18446744073709551616:=wrap_u64m _
  refine .skip ?_
  refine hK6 _ ?_
  refine .sq fun K7 hK7=>?_
  refine .block ?_
  refine .q ?_ (by simp (disch:=first|exact zd|fail) [if_pos,h12,h14,ld_ip agT52]; rfl)
  refine .sq fun K9 hK9=>?_
  refine .df 9 ?_ (by simp (disch:=first|exact zd|fail) [if_pos,h1,h5,hH,hsl,hsg,hmin,IntKind.bits,hwm,st1]; rfl)
  refine hK9 _ ?_
  refine .q ?_ (by simp (disch:=first|exact zd|fail) [h1]; rfl)
  refine .c (fun h29=>?_) (fun h29=>?_)
  ·try simp only[dc]at h29
   refine .r ?_ (by simp (disch:=first|exact zd|fail) [if_pos,h1,h5,hsl,w9,hmin2,f1,st2,IntKind.bits]; rfl)
   refine hK7 _ ?_
   refine .r ?_ (by simp (disch:=first|exact zd|fail) [h14]; rfl)
   refine ⟨w.length - (i + 1),by omega,i + 1,id,rfl,by omega,by simp [h1],by simp [h5],by simp [h12],by simp [h13],by simp (disch:=omega) [h14],by simp [← e1],by simp; omega,rfl⟩
  ·try simp only[dc]at h29
   have hk0 : k = 0:=by omega
   have e0:=shS_step0 dw hp1 hi' (by rw [← st2]; subst hk0; simp; omega)
   refine .skip ?_
   refine hK7 _ ?_
   refine .r ?_ (by simp (disch:=first|exact zd|fail) [h14]; rfl)
   refine ⟨w.length - (i + 1),by omega,i + 1,id,rfl,by omega,by simp [h1],by simp [h5],by simp [h12],by simp [h13],by simp (disch:=omega) [h14],by simp [← e0],by simp; omega,rfl⟩
 ·try simp only[dc]at h15
  obtain rfl : i = w.length:=by omega
  refine .exit ?_
  refine hK3 _ ?_
  refine .q ?_ (by simp (disch:=first|exact zd|fail) [h5]; rfl)
  refine .ret ?_
  exact hK _ _ (id) _ _ trivial ((Fin.mk (r:=.osl id 0 (w.length + 1)) (by simp [aRes,aResL,aRes1])).cast (by rw [wd_len,shW,hsl])) (by simp [hH,shW])

end Go.Proofs.YtjbbbkfdcegfmaaGreat

/- Walks: words trimmed in place. -/
namespace Go.Proofs.YtjbbbkfdcegfmaaGreat
open Go Go.RowKit
set_option linter.unusedSimpArgs false
set_option linter.unusedVariables false
set_option maxRecDepth 100000
attribute [local simp] szT3 byT3 agT3 unT3 zoT3 szT52 byT52 agT52 unT52 zoT52 szT188 byT188 agT188 elT188 unT188 zoT188 srT188 ixT188 lnT188

set_option maxHeartbeats 1000000 in
theorem trim_ac (l : List Int) (id N : Nat) (H : Heap) (nx : Nat) (hH : H id = some (1,wd .u64 l)) (hN : N ≤ l.length) (hl : l.length ≤ 1099511627776) : ACall Tryz.prog 234 [.osl id 0 N] H nx (fun r H' nx'=>r = .osl id 0 (trimW (l.take N)).length ∧ H' = H ∧ nx ≤ nx'):=by
 refine .b Tryz.func234 21 fun K hK=>?_
 refine .q ?_
 refine .sq fun K2 hK2=>?_
 refine .block ?_
 refine .loop (fun n s=>∃ q,n = q ∧ q ≤ N ∧ trimW (l.take q) = trimW (l.take N) ∧ s.env 0 = .osl id 0 q ∧ s.heap = H ∧ nx ≤ s.nx ∧ s.nt = 21) (N) (⟨N,rfl,Nat.le_refl _,rfl,by simp,rfl,by simp,rfl⟩) ?_
 rintro n ⟨e,H2,m,nt⟩ ⟨q,rfl,hq,ht,h0,rfl,hm,rfl⟩
 simp only [] at h0 hm hH
 refine .sq fun K3 hK3=>?_
 refine .sq fun K4 hK4=>?_
 rcases Nat.eq_zero_or_pos n with rfl | hn0
 ·refine .r ?_ (by simp (disch:=first|exact zd|fail) [if_pos,h0,hH]; rfl)
  refine hK4 _ ?_
  refine .c (fun h14=>?_) (fun h14=>?_)
  ·simp at h14
  ·try simp only[dc]at h14
   refine .exit ?_
   refine hK2 _ ?_
   refine .q ?_ (by simp (disch:=first|exact zd|fail) [h0]; rfl)
   refine .ret ?_
   exact hK _ _ _ _ _ trivial (Fin.mk (r:=.osl id 0 (trimW (l.take N)).length) (by simp [aRes,aResL,aRes1,← ht,trimW])) (⟨rfl,rfl,hm⟩)
 ·obtain ⟨k,rfl⟩ : ∃ k,n = k + 1:=⟨n - 1,by omega⟩
  have htk : l.take (k + 1) = l.take k ++ [gt l k]:=take_succ_gt (by omega)
  refine .r ?_ (by simp (disch:=first|exact zd|fail) [if_pos,h0,hH,ld_ip agT52]; rfl)
  refine hK4 _ ?_
  refine .c (fun h14=>?_) (fun h14=>?_)
  ·try simp only[dc]at h14
   have hx : gt l k = 0:=by simpa using h14
   refine .skip ?_
   refine hK3 _ ?_
   refine .block ?_
   refine .r ?_ (by simp (disch:=first|exact zd|fail) [if_pos,h0,hH]; rfl)
   refine ⟨k,by omega,k,rfl,by omega,?_,by simp,rfl,hm,rfl⟩
   rw [← ht,htk,hx,trimW_concat_zero]
  ·try simp only[dc]at h14
   have hx : gt l k ≠ 0:=by simpa using h14
   refine .exit ?_
   refine hK2 _ ?_
   refine .q ?_ (by simp (disch:=first|exact zd|fail) [h0]; rfl)
   refine .ret ?_
   exact hK _ _ _ _ _ trivial (Fin.mk (r:=.osl id 0 (trimW (l.take N)).length) (by simp [aRes,aResL,aRes1,← ht,htk,trimW_concat_pos _ _ hx]; omega)) (⟨rfl,rfl,hm⟩)

end Go.Proofs.YtjbbbkfdcegfmaaGreat

/- Walks: the division of words. -/
namespace Go.Proofs.YtjbbbkfdcegfmaaGreat
open Go Go.RowKit
set_option linter.unusedSimpArgs false
set_option linter.unusedVariables false
set_option maxRecDepth 100000
attribute [local simp] szT3 byT3 agT3 unT3 zoT3 szT52 byT52 agT52 unT52 zoT52 szT188 byT188 agT188 elT188 unT188 zoT188 srT188 ixT188 lnT188

set_option maxHeartbeats 8000000 in
theorem divWords_fc (a d : Nat) (hd : d ≠ 0) (la : (mag (a : Int)).length ≤ 68719476736) (lb : (mag (d : Int)).length ≤ 68719476736) : FC Tryz.prog 180 [Wd .u64 (mag (a : Int)),Wd .u64 (mag (d : Int))] (.tup [Wd .u64 (mag ((a / d : Nat) : Int)),Wd .u64 (mag ((a % d : Nat) : Int))]):=by
 have da:=mag_dig (a : Int)
 have dd:=mag_dig (d : Int)
 have hcm:=cmpI_mag (a : Int) (d : Int)
 rw [Int.natAbs_natCast,Int.natAbs_natCast] at hcm
 refine .b Tryz.func180 326 (fun nx K hK=>?_)
 refine .q ?_
 refine .sq fun K2 hK2=>?_
 refine .sq fun K3 hK3=>?_
 refine .region ?_
 refine .kf 2 (cmpWords_fc (mag (a : Int)) (mag (d : Int)) (by omega) (by omega)) hb235 ?_
 refine .e ?_
 refine hK3 _ ?_
 refine .c (fun h34=>?_) (fun h34=>?_)
 ·try simp only[dc]at h34
  have hlt : a < d:=hcm.1.1 (by omega)
  refine .q ?_
  refine .ret ?_
  exact hK _ _ _ _ trivial (((Fin.mk (r:=.tup [.nsl,Wd .u64 (mag (a : Int))]) (by simp [aRes,aResL,aRes1])).weak (r':=.tup [Wd .u64 [],Wd .u64 (mag (a : Int))]) (fun _ _ _ _ h=>by
    obtain ⟨vs,rfl,u,r,e,h1,h2⟩:=h
    exact ⟨vs,rfl,u,r,e,nsl_Wd .u64 h1,h2⟩)).cast (by rw [Nat.div_eq_of_lt hlt,Nat.mod_eq_of_lt hlt,show ((0 : Nat) : Int) = 0 from rfl,mag_zero]))
 ·try simp only[dc]at h34
  have had : d ≤ a:=by
    rcases Nat.lt_or_ge a d with h | h
    · have:=hcm.1.2 h; omega
    · exact h
  have hlen : (mag (d : Int)).length ≤ (mag (a : Int)).length:=mag_len_mono (by simpa using had)
  have hdl : (mag (d : Int)).length ≠ 0:=by rw [Ne,mag_len0]; omega
  refine .skip ?_
  refine hK2 _ ?_
  refine .q ?_
  refine .sq fun K6 hK6=>?_
  refine .q ?_
  refine .c (fun h39=>?_) (fun h39=>?_)
  ·try simp only[dc]at h39
   have h1l : (mag (d : Int)).length = 1:=by simp at h39; omega
   have hy:=mag_one h1l
   have hyg:=dd.gt (by omega) 0
   rw [hy] at hyg
   refine .q ?_ (by simp (disch:=first|exact zd|fail) [if_pos]; rfl)
   refine .sq fun K9 hK9=>?_
   refine .q ?_
   refine .block ?_
   refine .loop (fun n s=>∃ (i : Nat) (out : List Int) (r : Int),n = i ∧ i ≤ (mag (a : Int)).length ∧ out.length = (mag (a : Int)).length ∧ Dig 18446744073709551616 out ∧ 0 ≤ r ∧ r < d ∧ val 18446744073709551616 ((mag (a : Int)).drop i) = d * val 18446744073709551616 (out.drop i) + r ∧ s.env 0 = Wd .u64 (mag (a : Int)) ∧ s.env 1 = Wd .u64 (mag (d : Int)) ∧ s.env 7 = .osl nx 0 (mag (a : Int)).length ∧ s.env 8 = .int .u64 r ∧ s.env 9 = .int .i64 ((i : Int) - 1) ∧ s.heap nx = some (1,wd .u64 out) ∧ s.nt = 326) ((mag (a : Int)).length) (⟨(mag (a : Int)).length,List.replicate (mag (a : Int)).length 0,0,rfl,by omega,by simp,Dig.replicate _ (by omega) (by omega),by omega,by omega,by rw [List.drop_of_length_le (by omega),List.drop_of_length_le (by simp)]; simp [val],by simp,by simp,by simp,by simp,by simp,by simp,rfl⟩) ?_
   rintro n ⟨e,H,m,nt⟩ ⟨i,out,r,rfl,hi,ho,dO,hr0,hr,hv,g0,g1,g7,g8,g9,hH,rfl⟩
   simp only [] at g0 g1 g7 g8 g9 hH
   refine .sq fun K11 hK11=>?_
   refine .q ?_ (by simp (disch:=first|exact zd|fail) [g9]; rfl)
   refine .c (fun h47=>?_) (fun h47=>?_)
   ·try simp only[dc]at h47
    obtain ⟨i,rfl⟩ : ∃ k,n = k + 1:=⟨n - 1,by omega⟩
    have e9 : ((i + 1 : Nat) : Int) - 1 = i:=by omega
    rw [e9] at g9
    have ga:=da.gt (by omega) i
    have st:=div1_step da dO (by omega) hr0 hr hv
    refine .skip ?_
    refine hK11 _ ?_
    refine .sq fun K13 hK13=>?_
    refine .block ?_
    refine .old fun hold=>?_
    refine .d 15 ?_
    refine .k 10 (fun fs14 hfs14=>?_) (by simp (disch:=first|exact zd|fail) [List.take_succ_cons,List.take_zero,if_pos,g0,g1,g7,g8,g9,hH,ho,hy,h1l,ld_ip agT52]; rfl)
    refine .f (div64_fc (hi:=r) (lo:=gt (mag (a : Int)) i) (y0:=d) hr0 hr ga.1 ga.2 (by omega)) hb236 ?_ (ha:=by simp (disch:=first|exact zd|fail) [idf_Wd',if_pos,g0,g1,g7,g8,g9,hH,ho,hy,h1l,ld_ip agT52])
    refine .k 2 (fun fs15 hfs15=>?_) (by simp (disch:=first|exact zd|fail) [List.take_succ_cons,List.take_zero,if_pos,g0,g1,g7,g8,g9,hH,ho,hy,h1l,ld_ip agT52]; rfl)
    refine DP.runF1q (by simp (disch:=first|exact zd|fail) [if_pos,g0,g1,g7,g8,g9,hH,ho,hy,h1l,ld_ip agT52]; rfl) fun fq16 hfq16=>?_
    replace hfq16 : fq16.q = []:=by rw [hfq16]; simp [qids,asksB,Op.operands,topId]
    simp only [updo]
    refine .k 1 (fun fs17 hfs17=>?_) (by simp (disch:=first|exact zd|fail) [List.take_succ_cons,List.take_zero,if_pos,g0,g1,g7,g8,g9,hH,ho,hy,h1l,ld_ip agT52]; rfl)
    refine DQ.runG (m:=15) [13] (by simp only[ln,hfs14,hfs15,hfs17];omega) (by intro k f hk hex; simp only [List.mem_cons,List.not_mem_nil,or_false] at hex; rcases hex with rfl <;> (simp [List.getElem?_append,hfs14,hfs15,hfs17] at hk; subst hk; assumption)) _ _ _ (fun id q h j hj=>by have:=hold id q h; simp at hj; omega) (by kernel_rfl) rfl (by simp (disch:=first|exact zd|fail) [if_pos,g0,g1,g7,g8,g9,hH,ho,hy,h1l,ld_ip agT52]; rfl) ?_
    refine hK13 _ ?_
    refine .r ?_ (by simp (disch:=first|exact zd|fail) [g9]; rfl)
    refine ⟨i,by omega,i,out.set i ((r * 18446744073709551616 + gt (mag (a : Int)) i) / d),(r * 18446744073709551616 + gt (mag (a : Int)) i) % d,rfl,by omega,by simp [ho],dO.set _ st.1 st.2.1,st.2.2.1,st.2.2.2.1,st.2.2.2.2,by simp [g0],by simp [g1],by simp [g7],by simp,by simp [g9],by simp,rfl⟩
   ·try simp only[dc]at h47
    obtain rfl : n = 0:=by omega
    obtain ⟨f1,f2⟩:=div1_fin hr0 hr hv
    have hr1 : Dig 18446744073709551616 [r]:=Dig.cons hr0 (by omega) (Dig.nil _)
    have t1 : trimW out = mag ((a / d : Nat) : Int):=by rw [mag_of dO,f1]
    have t2 : trimW [r] = mag ((a % d : Nat) : Int):=by rw [mag_of hr1]; simp only [val,Int.mul_zero,Int.add_zero]; rw [f2]
    refine .exit ?_
    refine hK9 _ ?_
    refine .sq fun K18 hK18=>?_
    refine .region ?_
    refine .k 1 ?_ (by simp (disch:=first|exact zd|fail) [List.take_succ_cons,List.take_zero,g7,g8]; rfl)
    refine AOPS.frz1 65 nx 1 (wd .u64 out) (Wd .u64 out) (by simp [hH]) (by simp [g7,← ho]; first | exact fz_wd rfl | exact isl_take_wd (Nat.le_refl _)) ?_
    refine .f (trim_fc out (by omega)) hb234 ?_ (ha:=by simp (disch:=first|exact zd|fail) [idf_Wd',g7,g8])
    refine .k 2 ?_ (by simp (disch:=first|exact zd|fail) [List.take_succ_cons,List.take_zero,g7,g8]; rfl)
    refine AOPS.frz1 68 m 1 (wd .u64 [r]) (Wd .u64 [r]) (by simp) (by simp; first | exact fz_wd rfl | exact isl_take_wd (by simp)) ?_
    refine .f (trim_fc [r] (by simp)) hb234 ?_ (ha:=by simp (disch:=first|exact zd|fail) [idf_Wd',g7,g8])
    refine .e ?_ (by simp (disch:=first|exact zd|fail) [g7,g8]; rfl)
    refine hK18 _ ?_
    refine .ret ?_
    exact hK _ _ _ _ trivial ((Fin.mk (r:=.tup [Wd .u64 (trimW out),Wd .u64 (trimW [r])]) (by simp [aRes,aResL,aRes1])).cast (by rw [t1,t2]))
  ·try simp only[dc]at h39
   have h1l : (mag (d : Int)).length ≠ 1:=by simp at h39; omega
   obtain ⟨m,hm⟩ : ∃ m,(mag (d : Int)).length = m + 2:=⟨(mag (d : Int)).length - 2,by omega⟩
   obtain ⟨t,k,p,Vl,ht,htB,hbl,hk,rfl,hp0,hVl,dV,lV,vV,tV,hVB,_,hK0⟩:=dw_init had hm
   obtain ⟨J,hJ⟩ : ∃ J,(mag (a : Int)).length = J + (m + 2):=⟨(mag (a : Int)).length - (m + 2),by omega⟩
   rw [hJ,Nat.add_sub_cancel] at hK0
   obtain ⟨n,hn⟩ : ∃ n,n = m + 2:=⟨_,rfl⟩
   have hp1 : (1 : Int) ≤ 2 ^ k:=by omega
   have hsa:=shS_len da hp1 (Nat.le_refl (mag (a : Int)).length)
   have hsd:=shS_len dd hp1 (Nat.le_refl (mag (d : Int)).length)
   have hsa' : (shW (mag (a : Int)) (2 ^ k)).length = J + n + 1:=by unfold shW; omega
   have hsd' : (shW (mag (d : Int)) (2 ^ k)).length = n + 1:=by unfold shW; omega
   have x4 : TN (((n : Int) - 1).toNat) (m + 1):=TN.i (by omega)
   have x5 : TN (((n : Int) - 2).toNat) (m):=TN.i (by omega)
   have hdn : (mag (d : Int)).length = n:=by omega
   have han : (mag (a : Int)).length = J + n:=by omega
   have eJ : ((J + n : Nat) : Int) - (n : Int) = J:=by omega
   have eJ2 : (J : Int) + (n : Int) - (n : Int) = J:=by omega
   have eJ3 : TN (((J : Int) + 1).toNat) (J + 1):=TN.i (by omega)
   have wb : (64 : Int) - (bitLen t : Int) = k:=by omega
   rw [← hn] at lV
   have hPm:=powB_pos m
   have c64 : (k : Int) ≤ 64:=by omega
   have hmk : TN (min k 64) (k):=TN.i (by omega)
   have hmk2 : TN (min (64 - k) 64) (64 - k):=TN.i (by omega)
   have fdk : ∀ x : Int,x.fdiv (2 ^ k) = x / 2 ^ k:=fun x=>Int.fdiv_eq_ediv_of_nonneg _ (Int.le_of_lt hp0)
   refine .skip ?_
   refine hK6 _ ?_
   refine .sq fun K19 hK19=>?_
   refine .region ?_
   refine .kf 5 (lz64_fc t htB) hb179 ?_ (by simp (disch:=first|exact zd|fail) [List.take_succ_cons,List.take_zero,if_pos,hdn,x4.e,ht,wb,ld_ip agT52]; rfl) (ha:=by simp (disch:=first|exact zd|fail) [idf_Wd',if_pos,hdn,x4.e,ht,wb,ld_ip agT52])
   refine .e ?_ (by simp (disch:=first|exact zd|fail) [if_pos,hdn,x4.e,ht,wb,ld_ip agT52]; rfl)
   refine hK19 _ ?_
   refine .sq fun K20 hK20=>?_
   refine .d 8 ?_
   refine .k 2 (fun fs21 hfs21=>?_) (by simp (disch:=first|exact zd|fail) [List.take_succ_cons,List.take_zero,if_pos,hsa',hsd',wd_len]; rfl)
   refine DP.ocall (shifted_fo (mag (d : Int)) k dd hk (by omega)) rfl rfl rfl hb237 (by simp (disch:=first|exact zd|fail) [idf_Wd',hsa',hsd',wd_len]) (by simp (disch:=first|exact zd|fail) [hsa',hsd',wd_len]) (by simp) ?_
   simp only [updo]
   refine .k 4 (fun fs22 hfs22=>?_) (by simp (disch:=first|exact zd|fail) [List.take_succ_cons,List.take_zero,if_pos,hsa',hsd',wd_len]; rfl)
   refine DP.ocall (shifted_fo (mag (a : Int)) k da hk (by omega)) rfl rfl rfl hb237 (by simp (disch:=first|exact zd|fail) [idf_Wd',hsa',hsd',wd_len]) (by simp (disch:=first|exact zd|fail) [hsa',hsd',wd_len]) (by simp) ?_
   simp only [updo]
   refine .r 8 (by simp only[ln,hfs21,hfs22];omega) ?_ (by simp (disch:=first|exact zd|fail) [if_pos,hsa',hsd',wd_len]; rfl)
   refine hK20 _ ?_
   refine AWP.frz1 11 (nx + 2) 1 (wd .u64 (shW (mag (d : Int)) (2 ^ k))) (Wd .u64 Vl) (by simp (disch:=omega)) (by simp; rw [fz_wdt (by omega),hVl,hn]) ?_
   refine .q ?_ (by simp (disch:=first|exact zd|fail) [if_pos,han,eJ,eJ2]; rfl)
   refine .sq fun K24 hK24=>?_
   refine .q ?_ (by simp (disch:=first|exact zd|fail) [han,eJ,eJ2]; rfl)
   refine .block ?_
   obtain ⟨iu,hiu⟩ : ∃ iu,iu = nx + 7:=⟨_,rfl⟩
   obtain ⟨io,hio⟩ : ∃ io,io = nx + 10:=⟨_,rfl⟩
   have hne : iu ≠ io:=by omega
   refine .loop (fun N s=>∃ (j : Nat) (u out : List Int),N = j ∧ j ≤ J + 1 ∧ Kn ((a : Int) * 2 ^ k) ((d : Int) * 2 ^ k) u out j ∧ u.length = J + n + 1 ∧ out.length = J + 1 ∧ s.env 6 = .int .i64 (n : Int) ∧ s.env 10 = .int .i64 (k : Int) ∧ s.env 11 = Wd .u64 Vl ∧ s.env 12 = .osl iu 0 (J + n + 1) ∧ s.env 13 = .osl io 0 (J + 1) ∧ s.env 14 = .int .i64 ((j : Int) - 1) ∧ s.heap iu = some (1,wd .u64 u) ∧ s.heap io = some (1,wd .u64 out) ∧ s.nt = 326) (J + 1) (⟨J + 1,shW (mag (a : Int)) (2 ^ k),List.replicate (J + 1) 0,rfl,by omega,hK0,hsa',by simp,by simp,by simp,by simp,by simp (disch:=omega) [hiu,hsa',wd_len],by simp (disch:=omega) [hio,eJ3.e],by simp,by simp (disch:=omega) [hiu],by simp (disch:=omega) [hio,eJ3.e],rfl⟩) ?_
   clear hcm h34 had hlen hdl h39 h1l hm ht htB hbl tV hJ hsa hsd hsa' hsd' eJ eJ2 eJ3 wb hK0 lb hdn
   rintro N ⟨e,H,mm,nt⟩ ⟨j,u,out,rfl,hj,hKn,hul,hol,h6,h10,h11,h12,h13,h14,hU,hO,rfl⟩
   simp only [] at h6 h10 h11 h12 h13 h14 hU hO
   refine .sq fun K26 hK26=>?_
   refine .q ?_ (by simp (disch:=first|exact zd|fail) [h14]; rfl)
   refine .c (fun h95=>?_) (fun h95=>?_)
   ·try simp only[dc]at h95
    obtain ⟨j,rfl⟩ : ∃ k,N = k + 1:=⟨N - 1,by omega⟩
    have e14 : ((j + 1 : Nat) : Int) - 1 = j:=by omega
    rw [e14] at h14
    have hz:=hKn.top (n:=n) (by rw [hn]; exact hVB)
    have hw:=win_lt hKn.dig (j:=j) (m:=m) (by rw [← hn]; exact hz)
    have hwd:=hKn.wide
    have tg:=top_ge dV (m:=m)
    rw [vV] at tg
    have g1:=hKn.dig.gt (by omega) (j + m + 2)
    have g2:=hKn.dig.gt (by omega) (j + m + 1)
    have g3:=hKn.dig.gt (by omega) (j + m)
    have gv1:=dV.gt (by omega) (m + 1)
    have gv2:=dV.gt (by omega) m
    have x1 : TN (((j : Int) + (n : Int)).toNat) (j + m + 2):=TN.i (by omega)
    have x2 : TN (((j : Int) + (n : Int) - 1).toNat) (j + m + 1):=TN.i (by omega)
    have x3 : TN (((j : Int) + (n : Int) - 2).toNat) (j + m):=TN.i (by omega)
    have x7 : TN (((j : Int) + (n : Int)).toNat) (j + n):=TN.i (by omega)
    have hjo : j < J + 1:=by omega
    have hW0:=val_nonneg (hKn.dig.drop j)
    refine .skip ?_
    refine hK26 _ ?_
    refine .sq fun K28 hK28=>?_
    refine .block ?_
    refine .q ?_
    refine .sq fun K30 hK30=>?_
    have J30 : ∀ s : St,(∃ q : Int,0 ≤ q ∧ q < 18446744073709551616 ∧ val 18446744073709551616 (u.drop j) < (q + 1) * ((d : Int) * 2 ^ k) ∧ s.env 6 = .int .i64 (n : Int) ∧ s.env 10 = .int .i64 (k : Int) ∧ s.env 11 = Wd .u64 Vl ∧ s.env 12 = .osl iu 0 (J + n + 1) ∧ s.env 13 = .osl io 0 (J + 1) ∧ s.env 14 = .int .i64 (j : Int) ∧ s.env 15 = .int .u64 q ∧ s.heap iu = some (1,wd .u64 u) ∧ s.heap io = some (1,wd .u64 out) ∧ s.nt = 326) → K30 s:=by
     clear h6 h10 h11 h12 h13 h14 hU hO hw hwd tg g1 g2 g3 gv1 gv2
     rintro ⟨e,H,mm,nt⟩ ⟨q,q0,qB,qlt,h6,h10,h11,h12,h13,h14,h15,hU,hO,rfl⟩
     simp only [] at h6 h10 h11 h12 h13 h14 h15 hU hO
     refine hK30 _ ?_
     refine .q ?_
     refine .sq fun K32 hK32=>?_
     refine .q ?_ (by simp (disch:=first|exact zd|fail) [h6]; rfl)
     refine .block ?_
     refine .loop (fun N s=>∃ (i : Nat) (u1 : List Int) (br c : Int),N = n - i ∧ i ≤ n ∧ Win u u1 j n (-(q * val 18446744073709551616 (Vl.take i)) + (18446744073709551616 : Int) ^ i * (br + c)) ∧ 0 ≤ br ∧ br ≤ 1 ∧ 0 ≤ c ∧ c < 18446744073709551616 ∧ s.env 6 = .int .i64 (n : Int) ∧ s.env 10 = .int .i64 (k : Int) ∧ s.env 11 = Wd .u64 Vl ∧ s.env 12 = .osl iu 0 (J + n + 1) ∧ s.env 13 = .osl io 0 (J + 1) ∧ s.env 14 = .int .i64 (j : Int) ∧ s.env 15 = .int .u64 q ∧ s.env 20 = .int .u64 br ∧ s.env 21 = .int .u64 c ∧ s.env 175 = .int .i64 (n : Int) ∧ s.env 176 = .int .i64 (i : Int) ∧ s.heap iu = some (1,wd .u64 u1) ∧ s.heap io = some (1,wd .u64 out) ∧ s.nt = 326) (n) (⟨0,u,0,0,by omega,by omega,(Win.refl hKn.dig j n).cast (by simp [val]),by omega,by omega,by omega,by omega,by simp [h6],by simp [h10],by simp [h11],by simp [h12],by simp [h13],by simp [h14],by simp [h15],by simp,by simp,by simp,by simp,by simp (disch:=omega) [hU],by simp (disch:=omega) [hO],rfl⟩) ?_
     clear h6 h10 h11 h12 h13 h14 h15 hU hO
     rintro N ⟨e,H,mm,nt⟩ ⟨i,u1,br,c,rfl,hi,w,br0,br1,c0,cB,h6,h10,h11,h12,h13,h14,h15,h20,h21,h175,h176,hU,hO,rfl⟩
     simp only [] at h6 h10 h11 h12 h13 h14 h15 h20 h21 h175 h176 hU hO
     have hu1 : u1.length = J + n + 1:=w.len.trans hul
     refine .q ?_ (by simp (disch:=first|exact zd|fail) [h175,h176]; rfl)
     refine .sq fun K35 hK35=>?_
     refine .c (fun h177=>?_) (fun h177=>?_)
     ·try simp only[dc]at h177
      have hi' : i < n:=by omega
      have ws:=win_sub w hi (by omega) dV q0 qB br0 br1 c0 cB
      have gvi:=dV.gt (by omega) i
      have gui:=w.dig.gt (by omega) (j + i)
      have x6 : TN (((j : Int) + (i : Int)).toNat) (j + i):=TN.i (by omega)
      have wm0:=ws.1
      have wm1:=ws.2.1
      have wm2:=ws.2.2.1
      refine .skip ?_
      refine hK35 _ ?_
      refine .sq fun K36 hK36=>?_
      refine .block ?_
      refine .q ?_ (by simp (disch:=first|exact zd|fail) [h176]; rfl)
      refine .sq fun K38 hK38=>?_
      refine .region ?_
      refine .kf 5 (mul64_fc q (gt Vl i) q0 qB gvi.1 gvi.2) hb238 ?_ (by simp (disch:=first|exact zd|fail) [List.take_succ_cons,List.take_zero,if_pos,h11,h15,lV,ld_ip agT52]; rfl) (ha:=by simp (disch:=first|exact zd|fail) [idf_Wd',if_pos,h11,h15,lV,ld_ip agT52])
      refine .e ?_ (by simp (disch:=first|exact zd|fail) [if_pos,h11,h15,lV,ld_ip agT52]; rfl)
      refine hK38 _ ?_
      refine .q ?_
      refine .sq fun K40 hK40=>?_
      refine .region ?_
      refine .k 2 ?_ (by simp (disch:=first|exact zd|fail) [List.take_succ_cons,List.take_zero,h21]; rfl)
      refine .en (FE.add64 nb239 (q * gt Vl i % 18446744073709551616) c 0 (by omega) c0 (by omega) (by omega)) ?_ (ha:=by simp (disch:=first|exact zd|fail) [idf_Wd',h21])
      refine .e ?_ (by simp (disch:=first|exact zd|fail) [h21]; rfl)
      refine hK40 _ ?_
      refine .q ?_
      refine .region ?_
      refine .k 12 ?_ (by simp (disch:=first|exact zd|fail) [List.take_succ_cons,List.take_zero,if_pos,h12,h14,h20,hU,x6.e,hu1,ld_ip agT52]; rfl)
      refine .en (FE.sub64 nb240 (gt u1 (j + i)) ((q * gt Vl i % 18446744073709551616 + c) % 18446744073709551616) br gui.1 (Int.emod_nonneg _ (by omega)) (Int.emod_lt_of_pos _ (by omega)) br0 br1) ?_ (ha:=by simp (disch:=first|exact zd|fail) [idf_Wd',if_pos,h12,h14,h20,hU,x6.e,hu1,ld_ip agT52])
      refine .e ?_ (by simp (disch:=first|exact zd|fail) [if_pos,h12,h14,h20,hU,x6.e,hu1,ld_ip agT52]; rfl)
      refine hK36 _ ?_
      refine .r ?_ (by simp (disch:=first|exact zd|fail) [h176]; rfl)
      refine ⟨n - (i + 1),by omega,i + 1,u1.set (j + i) ((gt u1 (j + i) - (q * gt Vl i % 18446744073709551616 + c) % 18446744073709551616 - br) % 18446744073709551616),_,_,rfl,by omega,ws.2.2.2,by split <;> omega,by split <;> omega,ws.2.1,ws.2.2.1,by simp [h6],by simp [h10],by simp [h11],by simp [h12],by simp [h13],by simp [h14],by simp [h15],by simp,by simp,by simp [h175],by simp (disch:=omega) [h176],by simp (disch:=omega) [hU],by simp (disch:=omega) [hO],rfl⟩
     ·try simp only[dc]at h177
      have hin : i = n:=by omega
      rw [hin,val_take_all (by omega),vV] at w
      have wl:=win_sub_last w (by omega) br0 br1 c0 cB
      have gun:=w.dig.gt (by omega) (j + n)
      refine .exit ?_
      refine hK32 _ ?_
      refine .sq fun K42 hK42=>?_
      refine .region ?_
      refine .k 12 ?_ (by simp (disch:=first|exact zd|fail) [List.take_succ_cons,List.take_zero,if_pos,h6,h12,h14,h20,h21,hU,x7.e,hu1,ld_ip agT52]; rfl)
      refine .en (FE.sub64 nb240 (gt u1 (j + n)) c br gun.1 c0 cB br0 br1) ?_ (ha:=by simp (disch:=first|exact zd|fail) [idf_Wd',if_pos,h6,h12,h14,h20,h21,hU,x7.e,hu1,ld_ip agT52])
      refine .e ?_ (by simp (disch:=first|exact zd|fail) [if_pos,h6,h12,h14,h20,h21,hU,x7.e,hu1,ld_ip agT52]; rfl)
      refine hK42 _ ?_
      refine .sq fun K43 hK43=>?_
      refine .block ?_
      refine .loop (fun N s=>∃ (q : Int) (u1 : List Int) (br : Int),N = q.toNat ∧ Win u u1 j n (-(q * ((d : Int) * 2 ^ k)) + (18446744073709551616 : Int) ^ (n + 1) * br) ∧ val 18446744073709551616 (u.drop j) < (q + 1) * ((d : Int) * 2 ^ k) ∧ 0 ≤ q ∧ q < 18446744073709551616 ∧ (br = 0 ∨ br = 1) ∧ s.env 6 = .int .i64 (n : Int) ∧ s.env 10 = .int .i64 (k : Int) ∧ s.env 11 = Wd .u64 Vl ∧ s.env 12 = .osl iu 0 (J + n + 1) ∧ s.env 13 = .osl io 0 (J + 1) ∧ s.env 14 = .int .i64 (j : Int) ∧ s.env 15 = .int .u64 q ∧ s.env 20 = .int .u64 br ∧ s.heap iu = some (1,wd .u64 u1) ∧ s.heap io = some (1,wd .u64 out) ∧ s.nt = 326) (q.toNat) (⟨q,u1.set (j + n) ((gt u1 (j + n) - c - br) % 18446744073709551616),(if gt u1 (j + n) < c + br then 1 else 0),rfl,wl,qlt,q0,qB,by split <;> simp,by simp [h6],by simp [h10],by simp [h11],by simp [h12],by simp [h13],by simp [h14],by simp [h15],by simp,by simp (disch:=omega) [hU],by simp (disch:=omega) [hO],rfl⟩) ?_
      clear h6 h10 h11 h12 h13 h14 h15 h20 h21 h175 h176 hU hO hu1 wl gun w qlt q0 qB
      rintro N ⟨e,H,mm,nt⟩ ⟨q,u1,br,rfl,w,qlt,q0,qB,hbr,h6,h10,h11,h12,h13,h14,h15,h20,hU,hO,rfl⟩
      simp only [] at h6 h10 h11 h12 h13 h14 h15 h20 hU hO
      have hu1 : u1.length = J + n + 1:=w.len.trans hul
      refine .sq fun K44 hK44=>?_
      refine .q ?_ (by simp (disch:=first|exact zd|fail) [h20]; rfl)
      refine .c (fun h233=>?_) (fun h233=>?_)
      ·try simp only[dc]at h233
       have hb1 : br = 1:=by simpa using h233
       subst hb1
       rw [Int.mul_one] at w
       have wlt:=w.lt hz
       have hneg : val 18446744073709551616 (u.drop j) < q * ((d : Int) * 2 ^ k):=by omega
       have hq1 : 1 ≤ q:=by
         rcases Int.lt_or_le q 1 with h | h
         · have : q = 0:=by omega
           subst this; omega
         · exact h
       refine .skip ?_
       refine hK44 _ ?_
       refine .block ?_
       refine .q ?_ (by simp (disch:=first|exact zd|fail) [h15]; rfl)
       refine .q ?_
       refine .sq fun K48 hK48=>?_
       refine .q ?_ (by simp (disch:=first|exact zd|fail) [h6]; rfl)
       refine .block ?_
       refine .loop (fun N s=>∃ (i : Nat) (u2 : List Int) (c : Int),N = n - i ∧ i ≤ n ∧ Win u u2 j n (-(q * ((d : Int) * 2 ^ k)) + (18446744073709551616 : Int) ^ (n + 1) + val 18446744073709551616 (Vl.take i) - (18446744073709551616 : Int) ^ i * c) ∧ 0 ≤ c ∧ c ≤ 1 ∧ s.env 6 = .int .i64 (n : Int) ∧ s.env 10 = .int .i64 (k : Int) ∧ s.env 11 = Wd .u64 Vl ∧ s.env 12 = .osl iu 0 (J + n + 1) ∧ s.env 13 = .osl io 0 (J + 1) ∧ s.env 14 = .int .i64 (j : Int) ∧ s.env 15 = .int .u64 (q - 1) ∧ s.env 20 = .int .u64 1 ∧ s.env 26 = .int .u64 c ∧ s.env 236 = .int .i64 (n : Int) ∧ s.env 237 = .int .i64 (i : Int) ∧ s.heap iu = some (1,wd .u64 u2) ∧ s.heap io = some (1,wd .u64 out) ∧ s.nt = 326) (n) (⟨0,u1,0,by omega,by omega,w.cast (by simp [val]),by omega,by omega,by simp [h6],by simp [h10],by simp [h11],by simp [h12],by simp [h13],by simp [h14],by simp,by simp [h20],by simp,by simp,by simp,by simp (disch:=omega) [hU],by simp (disch:=omega) [hO],rfl⟩) ?_
       clear h6 h10 h11 h12 h13 h14 h15 h20 hU hO hu1
       rintro N ⟨e,H,mm,nt⟩ ⟨i,u2,c,rfl,hi,w2,c0,c1,h6,h10,h11,h12,h13,h14,h15,h20,h26,h236,h237,hU,hO,rfl⟩
       simp only [] at h6 h10 h11 h12 h13 h14 h15 h20 h26 h236 h237 hU hO
       have hu2 : u2.length = J + n + 1:=w2.len.trans hul
       refine .q ?_ (by simp (disch:=first|exact zd|fail) [h236,h237]; rfl)
       refine .sq fun K51 hK51=>?_
       refine .c (fun h238=>?_) (fun h238=>?_)
       ·try simp only[dc]at h238
        have hi' : i < n:=by omega
        have ws:=win_add w2 hi (by omega) dV c0 c1
        have gvi:=dV.gt (by omega) i
        have gui:=w2.dig.gt (by omega) (j + i)
        have x6 : TN (((j : Int) + (i : Int)).toNat) (j + i):=TN.i (by omega)
        refine .skip ?_
        refine hK51 _ ?_
        refine .sq fun K52 hK52=>?_
        refine .block ?_
        refine .q ?_ (by simp (disch:=first|exact zd|fail) [h237]; rfl)
        refine .old fun hold=>?_
        refine .d 20 ?_
        refine .k 15 (fun fs54 hfs54=>?_) (by simp (disch:=first|exact zd|fail) [List.take_succ_cons,List.take_zero,if_pos,h11,h12,h14,h26,hU,x6.e,hu2,lV,ld_ip agT52]; rfl)
        refine DP.ecall (FE.add64 nb239 (gt u2 (j + i)) (gt Vl i) c gui.1 gvi.1 c0 c1) rfl rfl rfl (by simp (disch:=first|exact zd|fail) [idf_Wd',h11,h12,h14,h26,hU,x6.e,hu2,lV,ld_ip agT52]) (by simp (disch:=first|exact zd|fail) [h11,h12,h14,h26,hU,x6.e,hu2,lV,ld_ip agT52]) (by simp) ?_
        simp only [updo]
        refine .k 2 (fun fs55 hfs55=>?_) (by simp (disch:=first|exact zd|fail) [List.take_succ_cons,List.take_zero,if_pos,h11,h12,h14,h26,hU,x6.e,hu2,lV,ld_ip agT52]; rfl)
        refine DP.runF1q (by simp (disch:=first|exact zd|fail) [if_pos,h11,h12,h14,h26,hU,x6.e,hu2,lV,ld_ip agT52]; rfl) fun fq56 hfq56=>?_
        replace hfq56 : fq56.q = []:=by rw [hfq56]; simp [qids,asksB,Op.operands,topId]
        simp only [updo]
        refine .k 1 (fun fs57 hfs57=>?_) (by simp (disch:=first|exact zd|fail) [List.take_succ_cons,List.take_zero,if_pos,h11,h12,h14,h26,hU,x6.e,hu2,lV,ld_ip agT52]; rfl)
        refine DQ.runG (m:=20) [18] (by simp only[ln,hfs54,hfs55,hfs57];omega) (by intro k f hk hex; simp only [List.mem_cons,List.not_mem_nil,or_false] at hex; rcases hex with rfl <;> (simp [List.getElem?_append,hfs54,hfs55,hfs57] at hk; subst hk; assumption)) _ _ _ (fun id q h j hj=>by have:=hold id q h; simp at hj; omega) (by kernel_rfl) rfl (by simp (disch:=first|exact zd|fail) [if_pos,h11,h12,h14,h26,hU,x6.e,hu2,lV,ld_ip agT52]; rfl) ?_
        refine hK52 _ ?_
        refine .r ?_ (by simp (disch:=first|exact zd|fail) [h237]; rfl)
        refine ⟨n - (i + 1),by omega,i + 1,u2.set (j + i) ((gt u2 (j + i) + gt Vl i + c) % 18446744073709551616),(gt u2 (j + i) + gt Vl i + c) / 18446744073709551616,rfl,by omega,ws.2.2,ws.1,ws.2.1,by simp [h6],by simp [h10],by simp [h11],by simp [h12],by simp [h13],by simp [h14],by simp [h15],by simp [h20],by simp,by simp [h236],by simp (disch:=omega) [h237],by simp (disch:=omega) [hU],by simp (disch:=omega) [hO],rfl⟩
       ·try simp only[dc]at h238
        have hin : i = n:=by omega
        rw [hin,val_take_all (by omega),vV] at w2
        have wl:=win_add_last w2 (by omega) c0 c1
        have gun:=w2.dig.gt (by omega) (j + n)
        have wl0:=wl.1
        have wl1:=wl.2.1
        refine .exit ?_
        refine hK48 _ ?_
        refine .sq fun K58 hK58=>?_
        refine .region ?_
        refine .k 11 ?_ (by simp (disch:=first|exact zd|fail) [List.take_succ_cons,List.take_zero,if_pos,h6,h12,h14,h26,hU,x7.e,hu2,ld_ip agT52]; rfl)
        refine .en (FE.add64 nb239 (gt u2 (j + n)) 0 c gun.1 (by omega) c0 c1) ?_ (ha:=by simp (disch:=first|exact zd|fail) [idf_Wd',if_pos,h6,h12,h14,h26,hU,x7.e,hu2,ld_ip agT52])
        refine .e ?_ (by simp (disch:=first|exact zd|fail) [if_pos,h6,h12,h14,h26,hU,x7.e,hu2,ld_ip agT52]; rfl)
        refine hK58 _ ?_
        refine .r ?_ (by simp (disch:=first|exact zd|fail) [h20]; rfl)
        refine ⟨(q - 1).toNat,by omega,q - 1,u2.set (j + n) ((gt u2 (j + n) + c) % 18446744073709551616),1 - (gt u2 (j + n) + c) / 18446744073709551616,rfl,wl.2.2.cast (ab_cast _ _ _ _),by rw [show q - 1 + 1 = q by omega]; exact hneg,by omega,by omega,by omega,by simp [h6],by simp [h10],by simp [h11],by simp [h12],by simp [h13],by simp [h14],by simp [h15],by simp,by simp (disch:=omega) [hU],by simp (disch:=omega) [hO],rfl⟩
      ·try simp only[dc]at h233
       have hb0 : br = 0:=by simp at h233; omega
       subst hb0
       rw [Int.mul_zero,Int.add_zero] at w
       refine .exit ?_
       refine hK43 _ ?_
       refine .r ?_ (by simp (disch:=first|exact zd|fail) [if_pos,h13,h14,h15,hO,hol]; rfl)
       refine hK28 _ ?_
       refine .r ?_ (by simp (disch:=first|exact zd|fail) [h14]; rfl)
       refine ⟨j,by omega,j,u1,out.set j q,rfl,by omega,hKn.step (n:=n) w q0 qB qlt (by omega),w.len.trans hul,by simp [hol],by simp [h6],by simp [h10],by simp [h11],by simp [h12],by simp [h13],by simp [h14],by simp (disch:=omega) [hU],by simp (disch:=omega) [hO],rfl⟩
    refine .sq fun K59 hK59=>?_
    refine .df 12 ?_ (by simp (disch:=first|exact zd|fail) [if_pos,h6,h11,h12,h14,hU,x1.e,x4.e,lV,hul,ld_ip agT52]; rfl)
    refine hK59 _ ?_
    refine .c (fun h109=>?_) (fun h109=>?_)
    ·try simp only[dc]at h109
     have hQ0:=Qh.start hPm hw tg g1.1 h109 gv1.2 g2.1 g2.2 g3.2 gv2.1
     refine .q ?_
     refine .sq fun K61 hK61=>?_
     refine .d 22 ?_
     refine .k 18 (fun fs62 hfs62=>?_) (by simp (disch:=first|exact zd|fail) [List.take_succ_cons,List.take_zero,if_pos,h6,h11,h12,h14,hU,x1.e,x2.e,x4.e,lV,hul,ld_ip agT52]; rfl)
     refine .f (div64_fc (hi:=gt u (j + m + 2)) (lo:=gt u (j + m + 1)) (y0:=gt Vl (m + 1)) g1.1 h109 g2.1 g2.2 gv1.2) hb236 ?_ (ha:=by simp (disch:=first|exact zd|fail) [idf_Wd',if_pos,h6,h11,h12,h14,hU,x1.e,x2.e,x4.e,lV,hul,ld_ip agT52])
     refine .k 3 (fun fs63 hfs63=>?_) (by simp (disch:=first|exact zd|fail) [List.take_succ_cons,List.take_zero,if_pos,h6,h11,h12,h14,hU,x1.e,x2.e,x4.e,lV,hul,ld_ip agT52]; rfl)
     refine .r 22 (by simp only[ln,hfs62,hfs63];omega) ?_ (by simp (disch:=first|exact zd|fail) [if_pos,h6,h11,h12,h14,hU,x1.e,x2.e,x4.e,lV,hul,ld_ip agT52]; rfl)
     refine hK61 _ ?_
     refine .block ?_
     refine .loop (fun N s=>∃ q r : Int,N = q.toNat ∧ Qh (val 18446744073709551616 (u.drop j)) ((d : Int) * 2 ^ k) (gt u (j + m + 2)) (gt u (j + m + 1)) (gt Vl (m + 1)) q r ∧ s.env 6 = .int .i64 (n : Int) ∧ s.env 10 = .int .i64 (k : Int) ∧ s.env 11 = Wd .u64 Vl ∧ s.env 12 = .osl iu 0 (J + n + 1) ∧ s.env 13 = .osl io 0 (J + 1) ∧ s.env 14 = .int .i64 (j : Int) ∧ s.env 15 = .int .u64 q ∧ s.env 16 = .int .u64 r ∧ s.heap iu = some (1,wd .u64 u) ∧ s.heap io = some (1,wd .u64 out) ∧ s.nt = 326) (((gt u (j + m + 2) * 18446744073709551616 + gt u (j + m + 1)) / gt Vl (m + 1)).toNat) (⟨_,_,rfl,hQ0,by simp [h6],by simp [h10],by simp [h11],by simp [h12],by simp [h13],by simp [h14],by simp,by simp,by simp (disch:=omega) [hU],by simp (disch:=omega) [hO],rfl⟩) ?_
     clear h6 h10 h11 h12 h13 h14 hU hO
     rintro N ⟨e,H,mm,nt⟩ ⟨q,r,rfl,hQ,h6,h10,h11,h12,h13,h14,h15,h16,hU,hO,rfl⟩
     simp only [] at h6 h10 h11 h12 h13 h14 h15 h16 hU hO
     have hq0:=hQ.q0
     have hqB:=hQ.qB
     have hr0:=hQ.r0
     have hrB:=hQ.rB
     have m0 : 0 ≤ q * gt Vl m:=Int.mul_nonneg hq0 gv2.1
     refine .block ?_
     refine .sq fun K64 hK64=>?_
     refine .region ?_
     refine .kf 6 (mul64_fc q (gt Vl m) hq0 hqB gv2.1 gv2.2) hb238 ?_ (by simp (disch:=first|exact zd|fail) [List.take_succ_cons,List.take_zero,if_pos,h6,h11,h15,x5.e,lV,ld_ip agT52]; rfl) (ha:=by simp (disch:=first|exact zd|fail) [idf_Wd',if_pos,h6,h11,h15,x5.e,lV,ld_ip agT52])
     refine .e ?_ (by simp (disch:=first|exact zd|fail) [if_pos,h6,h11,h15,x5.e,lV,ld_ip agT52]; rfl)
     refine hK64 _ ?_
     refine .sq fun K65 hK65=>?_
     refine .sq fun K66 hK66=>?_
     by_cases hA : q * gt Vl m / 18446744073709551616 < r
     ·have c1 : decide (q * gt Vl m / 18446744073709551616 < r) = true:=by simp; omega
      refine .r ?_ (by simp (disch:=first|exact zd|fail) [if_pos,h16,c1]; rfl)
      refine hK66 _ ?_
      refine .c (fun h160=>?_) (fun h160=>?_)
      ·try simp only[dc]at h160
       refine .exit ?_
       refine J30 _ ?_
       exact ⟨q,hq0,hqB,hQ.lt,by simp [h6],by simp [h10],by simp [h11],by simp [h12],by simp [h13],by simp [h14],by simp [h15],by simp (disch:=omega) [hU],by simp (disch:=omega) [hO],rfl⟩
      ·simp at h160
     ·have c1 : decide (q * gt Vl m / 18446744073709551616 < r) = false:=by simp; omega
      by_cases hB : q * gt Vl m / 18446744073709551616 = r
      ·have c2 : (q * gt Vl m / 18446744073709551616 == r) = true:=by simp [hB]
       refine .r ?_ (by simp (disch:=first|exact zd|fail) [if_pos,h6,h12,h14,h16,hU,x3.e,hul,c1,c2,ld_ip agT52]; rfl)
       refine hK66 _ ?_
       refine .c (fun h160=>?_) (fun h160=>?_)
       ·try simp only[dc]at h160
        refine .exit ?_
        refine J30 _ ?_
        exact ⟨q,hq0,hqB,hQ.lt,by simp [h6],by simp [h10],by simp [h11],by simp [h12],by simp [h13],by simp [h14],by simp [h15],by simp (disch:=omega) [hU],by simp (disch:=omega) [hO],rfl⟩
       ·try simp only[dc]at h160
        refine .skip ?_
        refine hK65 _ ?_
        obtain ⟨s1,s2,s3⟩:=hQ.step hPm hw tg g3.1 (by omega)
        refine .q ?_ (by simp (disch:=first|exact zd|fail) [h15]; rfl)
        refine .q ?_
        refine .sq fun K69 hK69=>?_
        refine .region ?_
        refine .k 6 ?_ (by simp (disch:=first|exact zd|fail) [List.take_succ_cons,List.take_zero,if_pos,h6,h11,h16,x4.e,lV,ld_ip agT52]; rfl)
        refine .en (FE.add64 nb239 r (gt Vl (m + 1)) 0 hQ.r0 gv1.1 (by omega) (by omega)) ?_ (ha:=by simp (disch:=first|exact zd|fail) [idf_Wd',if_pos,h6,h11,h16,x4.e,lV,ld_ip agT52])
        refine .e ?_ (by simp (disch:=first|exact zd|fail) [if_pos,h6,h11,h16,x4.e,lV,ld_ip agT52]; rfl)
        refine hK69 _ ?_
        refine .q ?_
        refine .c (fun h174=>?_) (fun h174=>?_)
        ·try simp only[dc]at h174
         refine .exit ?_
         refine J30 _ ?_
         exact ⟨q - 1,by omega,by omega,s2,by simp [h6],by simp [h10],by simp [h11],by simp [h12],by simp [h13],by simp [h14],by simp [h15],by simp (disch:=omega) [hU],by simp (disch:=omega) [hO],rfl⟩
        ·try simp only[dc]at h174
         have hlt : r + gt Vl (m + 1) < 18446744073709551616:=by simp at h174; omega
         refine .skip ?_
         refine ⟨(q - 1).toNat,by omega,q - 1,r + gt Vl (m + 1),rfl,⟨s3,by omega,hlt,by omega,by omega,s2⟩,by simp [h6],by simp [h10],by simp [h11],by simp [h12],by simp [h13],by simp [h14],by simp,by simp [Int.emod_eq_of_lt (show 0 ≤ r + gt Vl (m + 1) by omega) hlt],by simp (disch:=omega) [hU],by simp (disch:=omega) [hO],rfl⟩
      ·have c2 : (q * gt Vl m / 18446744073709551616 == r) = false:=by simp [hB]
       refine .r ?_ (by simp (disch:=first|exact zd|fail) [if_pos,h16,c1,c2]; rfl)
       refine hK66 _ ?_
       refine .c (fun h160=>?_) (fun h160=>?_)
       ·simp at h160
       ·try simp only[dc]at h160
        refine .skip ?_
        refine hK65 _ ?_
        obtain ⟨s1,s2,s3⟩:=hQ.step hPm hw tg g3.1 (by omega)
        refine .q ?_ (by simp (disch:=first|exact zd|fail) [h15]; rfl)
        refine .q ?_
        refine .sq fun K73 hK73=>?_
        refine .region ?_
        refine .k 6 ?_ (by simp (disch:=first|exact zd|fail) [List.take_succ_cons,List.take_zero,if_pos,h6,h11,h16,x4.e,lV,ld_ip agT52]; rfl)
        refine .en (FE.add64 nb239 r (gt Vl (m + 1)) 0 hQ.r0 gv1.1 (by omega) (by omega)) ?_ (ha:=by simp (disch:=first|exact zd|fail) [idf_Wd',if_pos,h6,h11,h16,x4.e,lV,ld_ip agT52])
        refine .e ?_ (by simp (disch:=first|exact zd|fail) [if_pos,h6,h11,h16,x4.e,lV,ld_ip agT52]; rfl)
        refine hK73 _ ?_
        refine .q ?_
        refine .c (fun h174=>?_) (fun h174=>?_)
        ·try simp only[dc]at h174
         refine .exit ?_
         refine J30 _ ?_
         exact ⟨q - 1,by omega,by omega,s2,by simp [h6],by simp [h10],by simp [h11],by simp [h12],by simp [h13],by simp [h14],by simp [h15],by simp (disch:=omega) [hU],by simp (disch:=omega) [hO],rfl⟩
        ·try simp only[dc]at h174
         have hlt : r + gt Vl (m + 1) < 18446744073709551616:=by simp at h174; omega
         refine .skip ?_
         refine ⟨(q - 1).toNat,by omega,q - 1,r + gt Vl (m + 1),rfl,⟨s3,by omega,hlt,by omega,by omega,s2⟩,by simp [h6],by simp [h10],by simp [h11],by simp [h12],by simp [h13],by simp [h14],by simp,by simp [Int.emod_eq_of_lt (show 0 ≤ r + gt Vl (m + 1) by omega) hlt],by simp (disch:=omega) [hU],by simp (disch:=omega) [hO],rfl⟩
    ·try simp only[dc]at h109
     refine .skip ?_
     refine J30 _ ?_
     exact ⟨18446744073709551615,by omega,by omega,by omega,by simp [h6],by simp [h10],by simp [h11],by simp [h12],by simp [h13],by simp [h14],by simp,by simp (disch:=omega) [hU],by simp (disch:=omega) [hO],rfl⟩
   ·try simp only[dc]at h95
    obtain rfl : N = 0:=by omega
    obtain ⟨f1,f2⟩:=dw_fin hp0 hKn
    have hltn : val 18446744073709551616 u < (18446744073709551616 : Int) ^ n:=by
      have:=hKn.hi
      rw [List.drop_zero] at this
      rw [hn]; omega
    obtain ⟨M,hM⟩ : ∃ M,M = (trimW (u.take n)).length:=⟨_,rfl⟩
    have hMn : M ≤ n:=by
      have:=trimW_length (u.take n)
      rw [List.length_take] at this; omega
    refine .exit ?_
    refine hK24 _ ?_
    refine .sq fun K75 hK75=>?_
    refine .region ?_
    refine .k 3 ?_ (by simp (disch:=first|exact zd|fail) [List.take_succ_cons,List.take_zero,if_pos,h6,h12,hU,hul]; rfl)
    refine .a (trim_ac u iu n _ _ (by simp [hU]) (by omega) (by omega)) hb234 ?_ (ha:=by simp (disch:=first|exact zd|fail) [idf_Wd',if_pos,h6,h12,hU,hul])
    rintro _ H5 nx5 ⟨rfl,rfl,hnx5⟩
    rw [← hM]
    refine .e ?_ (by simp (disch:=first|exact zd|fail) [if_pos,h6,h12,hU,hul]; rfl)
    refine hK75 _ ?_
    refine .sq fun K76 hK76=>?_
    refine .q ?_ (by simp (disch:=first|exact zd|fail) [hU]; rfl)
    refine .block ?_
    refine .loop (fun N s=>∃ (i : Nat) (o : List Int),N = M - i ∧ i ≤ M ∧ o.length = J + n + 1 ∧ Dig 18446744073709551616 o ∧ (∀ x,x < i → gt o x = gt (trimW (u.take n)) x / 2 ^ k + gt (trimW (u.take n)) (x + 1) % 2 ^ k * 2 ^ (64 - k)) ∧ (∀ x,i ≤ x → x < M → gt o x = gt (trimW (u.take n)) x) ∧ s.env 10 = .int .i64 (k : Int) ∧ s.env 13 = .osl io 0 (J + 1) ∧ s.env 28 = .osl iu 0 M ∧ s.env 289 = .int .i64 (M : Int) ∧ s.env 290 = .int .i64 (i : Int) ∧ s.heap iu = some (1,wd .u64 o) ∧ s.heap io = some (1,wd .u64 out) ∧ s.nt = 326) (M) (⟨0,u,by omega,by omega,hul,hKn.dig,by intro x hx; omega,by intro x _ hx; rw [gt_trimW x (by omega),gt_take (by omega)],by simp [h10],by simp [h13],by simp,by simp,by simp,by simp (disch:=omega) [hU],by simp (disch:=omega) [hO],rfl⟩) ?_
    clear h6 h10 h11 h12 h13 h14 hU hO
    rintro N ⟨e,H,mm,nt⟩ ⟨i,o,rfl,hi,hol2,dO,hs1,hs2,h10,h13,h28,h289,h290,hU,hO,rfl⟩
    simp only [] at h10 h13 h28 h289 h290 hU hO
    refine .q ?_ (by simp (disch:=first|exact zd|fail) [h289,h290]; rfl)
    refine .sq fun K79 hK79=>?_
    refine .c (fun h291=>?_) (fun h291=>?_)
    ·try simp only[dc]at h291
     have hi' : i < M:=by omega
     have dT:=(hKn.dig.take n).trim
     have gi:=dT.gt (by omega) i
     have gi2:=dT.gt (by omega) (i + 1)
     have od:=or_down (y:=gt (trimW (u.take n)) (i + 1)) hk gi.1 gi.2
     have hoi:=hs2 i (Nat.le_refl _) hi'
     have i1 : TN (((i : Int) + 1).toNat) (i + 1):=TN.i (by omega)
     refine .skip ?_
     refine hK79 _ ?_
     refine .sq fun K80 hK80=>?_
     refine .block ?_
     refine .q ?_ (by simp (disch:=first|exact zd|fail) [h290]; rfl)
     refine .q ?_
     refine .sq fun K83 hK83=>?_
     refine .sq fun K84 hK84=>?_
     by_cases hiM : i + 1 < M
     ·have c1 : decide ((i : Int) + 1 < (M : Int)) = true:=by simp; omega
      have c2 : True:=trivial
      refine .r ?_ (by simp (disch:=first|exact zd|fail) [h10,h28,hU,c1]; rfl)
      refine hK84 _ ?_
      refine .c (fun h301=>?_) (fun h301=>?_)
      ·try simp only[dc]at h301
       have hk0 : 0 < k:=by omega
       have ho2:=hs2 (i + 1) (by omega) hiM
       have wl : IntKind.u64.wrap (gt (trimW (u.take n)) (i + 1) * 2 ^ (64 - k)) = gt (trimW (u.take n)) (i + 1) % 2 ^ k * 2 ^ (64 - k):=by rw [wrap_u64m,shl_low (by omega)]
       have w9 : TN (((64 : Int) - (k : Int)).toNat) (64 - k):=TN.i (by omega)
       have od1:=od.1
       refine .r ?_ (by simp (disch:=first|exact zd|fail) [if_pos,h10,h28,hU,hol2,i1.e,ho2,w9.e,hmk2.e,wl,IntKind.bits,ld_ip agT52]; rfl)
       refine hK83 _ ?_
       refine .r ?_ (by simp (disch:=first|exact zd|fail) [if_pos,h10,h28,hU,hol2,hoi,hmk.e,IntKind.bits,fdk,od1,ld_ip agT52]; rfl)
       refine hK80 _ ?_
       refine .r ?_ (by simp (disch:=first|exact zd|fail) [h290]; rfl)
       refine ⟨M - (i + 1),by omega,i + 1,o.set i (gt (trimW (u.take n)) i / 2 ^ k + gt (trimW (u.take n)) (i + 1) % 2 ^ k * 2 ^ (64 - k)),rfl,by omega,by simp [hol2],dO.set _ od.2.1 od.2.2,?_,?_,by simp [h10],by simp [h13],by simp [h28],by simp [h289],by simp (disch:=omega) [h290],by simp,by simp (disch:=omega) [hO],rfl⟩
       · intro x hx
         by_cases hxi : x = i
         · subst hxi; rw [gt_set (by omega)]
         · rw [gt_set_ne (by omega)]; exact hs1 x (by omega)
       · intro x hx hx2
         rw [gt_set_ne (by omega)]; exact hs2 x (by omega) hx2
      ·try simp only[dc]at h301
       have hk0 : k = 0:=by omega
       have hzz : gt (trimW (u.take n)) (i + 1) % 2 ^ k * 2 ^ (64 - k) = 0:=by subst hk0; simp
       have od1:=od.1
       rw [hzz,Int.add_zero] at od1
       refine .skip ?_
       refine hK83 _ ?_
       refine .r ?_ (by simp (disch:=first|exact zd|fail) [if_pos,h10,h28,hU,hol2,hoi,hmk.e,IntKind.bits,fdk,od1,ld_ip agT52]; rfl)
       refine hK80 _ ?_
       refine .r ?_ (by simp (disch:=first|exact zd|fail) [h290]; rfl)
       refine ⟨M - (i + 1),by omega,i + 1,o.set i (gt (trimW (u.take n)) i / 2 ^ k + gt (trimW (u.take n)) (i + 1) % 2 ^ k * 2 ^ (64 - k)),rfl,by omega,by simp [hol2],dO.set _ od.2.1 od.2.2,?_,?_,by simp [h10],by simp [h13],by simp [h28],by simp [h289],by simp (disch:=omega) [h290],by simp [hzz],by simp (disch:=omega) [hO],rfl⟩
       · intro x hx
         by_cases hxi : x = i
         · subst hxi; rw [gt_set (by omega)]
         · rw [gt_set_ne (by omega)]; exact hs1 x (by omega)
       · intro x hx hx2
         rw [gt_set_ne (by omega)]; exact hs2 x (by omega) hx2
     ·have c1 : decide ((i : Int) + 1 < (M : Int)) = false:=by simp; omega
      have c2 : True:=trivial
      refine .r ?_ (by simp (disch:=first|exact zd|fail) [h28,hU,c1]; rfl)
      refine hK84 _ ?_
      refine .c (fun h301=>?_) (fun h301=>?_)
      ·simp at h301
      ·try simp only[dc]at h301
       have hzz : gt (trimW (u.take n)) (i + 1) % 2 ^ k * 2 ^ (64 - k) = 0:=by rw [gt_ge (by omega),Int.zero_emod,Int.zero_mul]
       have od1:=od.1
       rw [hzz,Int.add_zero] at od1
       refine .skip ?_
       refine hK83 _ ?_
       refine .r ?_ (by simp (disch:=first|exact zd|fail) [if_pos,h10,h28,hU,hol2,hoi,hmk.e,IntKind.bits,fdk,od1,ld_ip agT52]; rfl)
       refine hK80 _ ?_
       refine .r ?_ (by simp (disch:=first|exact zd|fail) [h290]; rfl)
       refine ⟨M - (i + 1),by omega,i + 1,o.set i (gt (trimW (u.take n)) i / 2 ^ k + gt (trimW (u.take n)) (i + 1) % 2 ^ k * 2 ^ (64 - k)),rfl,by omega,by simp [hol2],dO.set _ od.2.1 od.2.2,?_,?_,by simp [h10],by simp [h13],by simp [h28],by simp [h289],by simp (disch:=omega) [h290],by simp [hzz],by simp (disch:=omega) [hO],rfl⟩
       · intro x hx
         by_cases hxi : x = i
         · subst hxi; rw [gt_set (by omega)]
         · rw [gt_set_ne (by omega)]; exact hs1 x (by omega)
       · intro x hx hx2
         rw [gt_set_ne (by omega)]; exact hs2 x (by omega) hx2
    ·try simp only[dc]at h291
     have hin : i = M:=by omega
     rw [hin] at hs1
     have hrd:=rest_down (a:=a) (d:=d) (k:=k) (n:=n) hk hKn.dig (by omega) f2 hltn dO (by omega) (by rw [← hM]; exact hs1)
     rw [← hM] at hrd
     have t1 : trimW out = mag ((a / d : Nat) : Int):=by rw [mag_of hKn.dout,f1]
     refine .exit ?_
     refine hK76 _ ?_
     refine .sq fun K85 hK85=>?_
     refine .region ?_
     refine .k 1 ?_ (by simp (disch:=first|exact zd|fail) [List.take_succ_cons,List.take_zero,h13,h28]; rfl)
     refine AOPS.frz1 322 io 1 (wd .u64 out) (Wd .u64 out) (by simp (disch:=omega) [hO]) (by simp [h13,← hol]; first | exact fz_wd rfl | exact isl_take_wd (Nat.le_refl _)) ?_
     refine .f (trim_fc out (by omega)) hb234 ?_ (ha:=by simp (disch:=first|exact zd|fail) [idf_Wd',h13,h28])
     refine .k 1 ?_ (by simp (disch:=first|exact zd|fail) [List.take_succ_cons,List.take_zero,h13,h28]; rfl)
     refine AOPS.frz1 324 iu 1 (wd .u64 o) (Wd .u64 (o.take M)) (by simp (disch:=omega) [hU]) (by simp [h28]; exact fz_wdt (by omega)) ?_
     refine .f (trim_fc (o.take M) (by simp; omega)) hb234 ?_ (ha:=by simp (disch:=first|exact zd|fail) [idf_Wd',h13,h28])
     refine .e ?_ (by simp (disch:=first|exact zd|fail) [h13,h28]; rfl)
     refine hK85 _ ?_
     refine .ret ?_
     exact hK _ _ _ _ trivial ((Fin.mk (r:=.tup [Wd .u64 (trimW out),Wd .u64 (trimW (o.take M))]) (by simp [aRes,aResL,aRes1])).cast (by rw [t1,hrd.2]))

end Go.Proofs.YtjbbbkfdcegfmaaGreat

/- Walks: the greatest common divisor. -/
namespace Go.Proofs.YtjbbbkfdcegfmaaGreat
open Go Go.RowKit
set_option linter.unusedSimpArgs false
set_option linter.unusedVariables false
set_option maxRecDepth 100000
attribute [local simp] szT3 byT3 agT3 unT3 zoT3 szT4 byT4 agT4 unT4 zoT4 szT52 byT52 agT52 unT52 zoT52 szT188 byT188 agT188 elT188 unT188 zoT188 szT190 byT190 agT190 flT190 fdT190_0 fdT190_1 zoT190 szT233 byT233 agT233 elT233 unT233 zoT233 srT188 ixT188 lnT188 srT233

section
attribute [local simp] idf_numI cells_numI numI_fold
set_option maxHeartbeats 2000000 in
theorem gcd_fc {j : Nat} (zs : List Int) (hz : ∀ z ∈ zs,Bg j z) (hj : j ≤ 68719476736) (hl : zs.length ≤ 1099511627776) : FC Tryz.prog 141 [.isl (zs.map numC)] (numI ((gcdL zs : Nat) : Int)):=by
 refine .b Tryz.func141 37 (fun nx K hK=>?_) (hi:=by simp [idfL,idf,idfLL_iff,numC,idf_Wd'])
 refine .q ?_
 refine .q ?_
 refine .sq fun K3 hK3=>?_
 refine .q ?_
 refine .block ?_
 refine .loop (fun N s=>∃ (i : Nat) (X : AV),N = zs.length - i ∧ i ≤ zs.length ∧ (X = .nsl ∧ i = 0 ∨ X = Wd .u64 (mag ((gcdL (zs.take i) : Nat) : Int))) ∧ s.env 2 = .ptr nx 0 0 ∧ s.env 3 = .ptr (nx + 1) 0 0 ∧ s.env 11 = .isl (zs.map numC) ∧ s.env 12 = .int .i64 (zs.length : Int) ∧ s.env 13 = .int .i64 (i : Int) ∧ s.heap nx = some (2,[[.bool false,.nsl]]) ∧ s.heap (nx + 1) = some (2,[[.bool false,X]]) ∧ nx + 1 < s.nx ∧ s.nt = 37) (zs.length) (⟨0,.nsl,by omega,by omega,.inl ⟨rfl,rfl⟩,by simp,by simp,by simp,by simp,by simp,by simp,by simp,by simp,rfl⟩) ?_
 rintro N ⟨e,H,mm,nt⟩ ⟨i,X,rfl,hi,hX,h2,h3,h11,h12,h13,hA,hB,hm,rfl⟩
 simp only [] at h2 h3 h11 h12 h13 hA hB hm
 refine .q ?_ (by simp (disch:=first|exact zd|fail) [h12,h13]; rfl)
 refine .sq fun K6 hK6=>?_
 refine .c (fun h14=>?_) (fun h14=>?_)
 ·try simp only[dc]at h14
  have hi' : i < zs.length:=by omega
  have hzi : zs[i]? = some (gt zs i):=gt_some hi'
  have hmem : gt zs i ∈ zs:=List.mem_of_getElem? hzi
  have bz:=hz _ hmem
  have bg:=gcdL_bg zs hz i
  have hmi : (zs.map numC)[i]? = some (numC (gt zs i)):=by rw [List.getElem?_map,hzi]; rfl
  refine .skip ?_
  refine hK6 _ ?_
  refine .sq fun K7 hK7=>?_
  refine .block ?_
  refine .q ?_ (by simp (disch:=first|exact zd|fail) [if_pos,h11,h13,hmi,numC,hm]; rfl)
  refine .sq fun K9 hK9=>?_
  have hne : nx + 1 ≠ mm:=by omega
  have hne2 : mm ≠ nx + 1:=by omega
  refine .df 4 ?_ (by simp (disch:=first|exact zd|fail) [h3,hB,Nat.ne_of_lt hm,numC]; rfl)
  refine hK9 _ ?_
  refine .sq fun K10 hK10=>?_
  refine .block ?_
  refine AWP.weakE 6 (Wd .u64 (mag ((gcdL (zs.take i) : Nat) : Int))) (by
    rcases hX with ⟨rfl,h0⟩ | rfl
    · simp only [upd_ap]; intro w β b v hv
      have hv' : VR w β b .nsl v:=by simpa using hv
      have : mag ((gcdL (zs.take i) : Nat) : Int) = []:=by rw [h0]; exact mag_zero
      rw [this]; exact nsl_Wd .u64 hv'
    · intro w β b v hv; simpa [upd_ap] using hv) ?_
  refine .loop (fun N s=>∃ x y : Nat,N = y ∧ Nat.gcd x y = Nat.gcd (gcdL (zs.take i)) (gt zs i).natAbs ∧ Bg j x ∧ Bg j y ∧ s.env 2 = .ptr nx 0 0 ∧ s.env 3 = .ptr (nx + 1) 0 0 ∧ s.env 11 = .isl (zs.map numC) ∧ s.env 12 = .int .i64 (zs.length : Int) ∧ s.env 13 = .int .i64 (i : Int) ∧ s.env 6 = Wd .u64 (mag (x : Int)) ∧ s.env 7 = Wd .u64 (mag (y : Int)) ∧ s.heap nx = some (2,[[.bool false,.nsl]]) ∧ s.heap (nx + 1) = some (2,[[.bool false,X]]) ∧ nx + 1 < s.nx ∧ s.nt = 37) ((gt zs i).natAbs) (⟨gcdL (zs.take i),(gt zs i).natAbs,rfl,rfl,bg,bz.abs,by simp [h2],by simp [h3],by simp [h11],by simp [h12],by simp [h13],by simp,by simp [mag_abs],by simp (disch:=omega) [hA],by simp (disch:=omega) [hB],by simp; omega,rfl⟩) ?_
  clear h2 h3 h11 h12 h13 hA hB
  rintro N ⟨e,H,mm2,nt⟩ ⟨x,y,rfl,hg,bx,bY,h2,h3,h11,h12,h13,h6,h7,hA,hB,hm2,rfl⟩
  simp only [] at h2 h3 h11 h12 h13 h6 h7 hA hB hm2
  refine .sq fun K11 hK11=>?_
  refine .q ?_ (by simp (disch:=first|exact zd|fail) [h7]; rfl)
  refine .c (fun h23=>?_) (fun h23=>?_)
  ·try simp only[dc]at h23
   have hy : N ≠ 0:=fun h=>by
     subst h
     simp [mag_zero] at h23
   refine .skip ?_
   refine hK11 _ ?_
   refine .block ?_
   refine .sq fun K13 hK13=>?_
   refine .region ?_
   refine .kf 2 (divWords_fc x N hy (Nat.le_trans bx.len hj) (Nat.le_trans bY.len hj)) hb180 ?_ (by simp (disch:=first|exact zd|fail) [List.take_succ_cons,List.take_zero,h6,h7]; rfl) (ha:=by simp (disch:=first|exact zd|fail) [idf_Wd',h6,h7])
   refine .e ?_ (by simp (disch:=first|exact zd|fail) [h6,h7]; rfl)
   refine hK13 _ ?_
   refine .region ?_
   refine .kf 2 (clone_fc (mag ((x % N : Nat) : Int)) (by have:=(bY.mod x hy).len; omega)) hb181 ?_ (by simp (disch:=first|exact zd|fail) [List.take_succ_cons,List.take_zero,h7]; rfl) (ha:=by simp (disch:=first|exact zd|fail) [idf_Wd',h7])
   refine .e ?_ (by simp (disch:=first|exact zd|fail) [h7]; rfl)
   refine ⟨x % N,Nat.mod_lt _ (by omega),N,x % N,rfl,by rw [← hg,Nat.gcd_comm N,← Nat.gcd_rec,Nat.gcd_comm],bY,bY.mod x (by omega),by simp [h2],by simp [h3],by simp [h11],by simp [h12],by simp [h13],by simp [h7],by simp,by simp [hA],by simp [hB],by simpa using hm2,rfl⟩
  ·try simp only[dc]at h23
   have hy : N = 0:=by
     have : (mag (N : Int)).length = 0:=by omega
     rw [mag_len0] at this; omega
   subst hy
   rw [Nat.gcd_zero_right] at hg
   rw [hg] at h6
   refine .exit ?_
   refine hK10 _ ?_
   refine .r ?_ (by simp (disch:=first|exact zd|fail) [h3,h6,hB]; rfl)
   refine hK7 _ ?_
   refine .r ?_ (by simp (disch:=first|exact zd|fail) [h13]; rfl)
   have hgz:=gcdL_succ zs hi'
   refine ⟨zs.length - (i + 1),by omega,i + 1,Wd .u64 (mag ((gcdL (zs.take (i + 1)) : Nat) : Int)),rfl,by omega,.inr rfl,by simp [h2],by simp [h3],by simp [h11],by simp [h12],by simp (disch:=omega) [h13],by simp (disch:=omega) [hA],by simp [hgz,← hg],by simpa using hm2,rfl⟩
 ·try simp only[dc]at h14
  have hin : i = zs.length:=by omega
  refine .exit ?_
  refine hK3 _ ?_
  refine .sq fun K14 hK14=>?_
  rcases hX with ⟨rfl,h0⟩ | rfl
  ·have hz0 : zs = []:=List.length_eq_zero_iff.mp (by omega)
   refine .r ?_ (by simp (disch:=first|exact zd|fail) [h2,h3,hA,hB]; rfl)
   refine hK14 _ ?_
   refine .ret ?_
   exact hK _ _ _ _ trivial ((Fin.mk (r:=.agg [.bool false,.nsl]) (by simp [aRes,aResL,aRes1,h2])).weak (by rw [hz0]; exact fun _ _ _ _=>num0_weak))
  ·rw [hin,List.take_length] at hB
   refine .r ?_ (by simp (disch:=first|exact zd|fail) [h2,h3,hA,hB]; rfl)
   refine hK14 _ ?_
   refine .ret ?_
   exact hK _ _ _ _ trivial ((Fin.mk (r:=.agg [.bool false,Wd .u64 (mag ((gcdL zs : Nat) : Int))]) (by simp [aRes,aResL,aRes1,h2])).cast (by unfold numI; rw [decide_eq_false (by omega)]))
end

end Go.Proofs.YtjbbbkfdcegfmaaGreat

/- Walks: are points right?. -/
namespace Go.Proofs.YtjbbbkfdcegfmaaGreat
open Go Go.RowKit
set_option linter.unusedSimpArgs false
set_option linter.unusedVariables false
set_option maxRecDepth 100000
attribute [local simp] szT2 byT2 agT2 unT2 zoT2 szT4 byT4 agT4 unT4 zoT4 szT52 byT52 agT52 unT52 zoT52 szT60 byT60 agT60 flT60 fdT60_0 fdT60_1 fdT60_2 fdT60_3 zoT60 szT62 byT62 agT62 flT62 fdT62_0 fdT62_1 fdT62_2 zoT62 szT103 byT103 agT103 elT103 unT103 zoT103 szT105 byT105 agT105 flT105 fdT105_0 fdT105_1 zoT105 szT107 byT107 agT107 flT107 fdT107_0 fdT107_1 fdT107_2 zoT107 szT190 byT190 agT190 flT190 fdT190_0 fdT190_1 zoT190 szT192 byT192 agT192 flT192 fdT192_0 fdT192_1 fdT192_2 zoT192 szT223 byT223 agT223 unT223 zoT223 srT103 ixT103 lnT103

section
attribute [local simp] idf_numS cells_numS numS_fold idf_numI cells_numI numI_fold Pt.av Pt.cells wdI
set_option maxHeartbeats 1000000 in
theorem spot_fc (p : Pt) (hp : p.ok) : FC Tryz.prog 138 [p.av] (spA p.x.v p.y.v p.w.v):=by
 
 refine .b Tryz.func138 13 (fun nx K hK=>?_) (hr:=by simp [idfL,idf,spA,spC,idf_Wd'])
 refine .q ?_
 refine .sq fun K2 hK2=>?_
 refine .d 10 ?_
 refine .k 2 (fun fs3 hfs3=>?_)
 refine .f (wideNum_fc p.x.a p.x.b p.x.c p.x.d hp.1.1 hp.1.2.1 hp.1.2.2.1 hp.1.2.2.2) hb178 ?_
 refine .k 2 (fun fs4 hfs4=>?_)
 refine .f (wideNum_fc p.y.a p.y.b p.y.c p.y.d hp.2.1.1 hp.2.1.2.1 hp.2.1.2.2.1 hp.2.1.2.2.2) hb178 ?_
 refine .k 2 (fun fs5 hfs5=>?_)
 refine .f (wideNum_fc p.w.a p.w.b p.w.c p.w.d hp.2.2.1 hp.2.2.2.1 hp.2.2.2.2.1 hp.2.2.2.2.2) hb178 ?_
 refine .k 1 (fun fs6 hfs6=>?_)
 refine .r 10 (by simp only[ln,hfs3,hfs4,hfs5,hfs6];omega) ?_
 refine hK2 _ ?_
 refine .ret ?_
 exact hK _ _ _ _ trivial ((Fin.m).cast (by rfl))
end
section
attribute [local simp] idf_numS cells_numS numS_fold idf_numI cells_numI numI_fold l3A l3C
end

end Go.Proofs.YtjbbbkfdcegfmaaGreat

/- Walks: turns of three points. -/
namespace Go.Proofs.YtjbbbkfdcegfmaaGreat
open Go Go.RowKit
set_option linter.unusedSimpArgs false
set_option linter.unusedVariables false
set_option maxRecDepth 100000
attribute [local simp] szT4 byT4 agT4 unT4 zoT4 szT103 byT103 agT103 elT103 unT103 zoT103 szT105 byT105 agT105 flT105 fdT105_0 fdT105_1 zoT105 szT107 byT107 agT107 flT107 fdT107_0 fdT107_1 fdT107_2 zoT107 srT103

section
attribute [local simp] idf_numS cells_numS numS_fold idf_numI cells_numI numI_fold l3A l3C
set_option maxHeartbeats 2000000 in
theorem l3Orient_fc (p q r : Pt) (hp : p.ok) (hq : q.ok) (hr : r.ok) : FC Tryz.prog 113 [l3A p.x.v p.y.v p.w.v,l3A q.x.v q.y.v q.w.v,l3A r.x.v r.y.v r.w.v] (.int .i64 (sg3 (det p q r))):=by
 have pX:=W4.bg hp.1
 have pY:=W4.bg hp.2.1
 have pW:=W4.bg hp.2.2
 have qX:=W4.bg hq.1
 have qY:=W4.bg hq.2.1
 have qW:=W4.bg hq.2.2
 have rX:=W4.bg hr.1
 have rY:=W4.bg hr.2.1
 have rW:=W4.bg hr.2.2
 refine .b Tryz.func113 58 (fun nx K hK=>?_) (hi:=by simp [idfL,idf,l3A,l3C,idf_Wd'])
 refine .q ?_
 refine .sq fun K2 hK2=>?_
 refine .d 15 ?_
 refine .k 6 (fun fs3 hfs3=>?_)
 refine .f (l1Mul_fc qY rW (by omega) (by omega)) hb165 ?_
 refine .k 4 (fun fs4 hfs4=>?_)
 refine .f (l1Mul_fc qW rY (by omega) (by omega)) hb165 ?_
 refine .f (l1Sub_fc (qY.mul rW) (qW.mul rY) (by omega) (by omega)) hb166 ?_
 refine .f (l1Mul_fc pX ((qY.mul rW).sub (qW.mul rY)) (by omega) (by omega)) hb165 ?_
 refine .k 1 (fun fs5 hfs5=>?_)
 refine .r 15 (by simp only[ln,hfs3,hfs4,hfs5];omega) ?_
 refine hK2 _ ?_
 refine .sq fun K6 hK6=>?_
 refine .d 15 ?_
 refine .k 6 (fun fs7 hfs7=>?_)
 refine .f (l1Mul_fc qX rW (by omega) (by omega)) hb165 ?_
 refine .k 4 (fun fs8 hfs8=>?_)
 refine .f (l1Mul_fc qW rX (by omega) (by omega)) hb165 ?_
 refine .f (l1Sub_fc (qX.mul rW) (qW.mul rX) (by omega) (by omega)) hb166 ?_
 refine .f (l1Mul_fc pY ((qX.mul rW).sub (qW.mul rX)) (by omega) (by omega)) hb165 ?_
 refine .k 1 (fun fs9 hfs9=>?_)
 refine .r 15 (by simp only[ln,hfs7,hfs8,hfs9];omega) ?_
 refine hK6 _ ?_
 refine .sq fun K10 hK10=>?_
 refine .d 15 ?_
 refine .k 6 (fun fs11 hfs11=>?_)
 refine .f (l1Mul_fc qX rY (by omega) (by omega)) hb165 ?_
 refine .k 4 (fun fs12 hfs12=>?_)
 refine .f (l1Mul_fc qY rX (by omega) (by omega)) hb165 ?_
 refine .f (l1Sub_fc (qX.mul rY) (qY.mul rX) (by omega) (by omega)) hb166 ?_
 refine .f (l1Mul_fc pW ((qX.mul rY).sub (qY.mul rX)) (by omega) (by omega)) hb165 ?_
 refine .k 1 (fun fs13 hfs13=>?_)
 refine .r 15 (by simp only[ln,hfs11,hfs12,hfs13];omega) ?_
 refine hK10 _ ?_
 refine .sq fun K14 hK14=>?_
 refine .d 6 ?_
 refine .k 2 (fun fs15 hfs15=>?_)
 refine .f (l1Sub_fc (pX.mul ((qY.mul rW).sub (qW.mul rY))) (pY.mul ((qX.mul rW).sub (qW.mul rX))) (by omega) (by omega)) hb166 ?_
 refine .k 1 (fun fs16 hfs16=>?_)
 refine .f (l1Add_fc ((pX.mul ((qY.mul rW).sub (qW.mul rY))).sub (pY.mul ((qX.mul rW).sub (qW.mul rX)))) (pW.mul ((qX.mul rY).sub (qY.mul rX))) (by omega) (by omega)) hb167 ?_
 refine .f (l1Sign_fc (p.x.v * (q.y.v * r.w.v - q.w.v * r.y.v) - p.y.v * (q.x.v * r.w.v - q.w.v * r.x.v) + p.w.v * (q.x.v * r.y.v - q.y.v * r.x.v))) hb131 ?_
 refine .r 6 (by simp only[ln,hfs15,hfs16];omega) ?_
 refine hK14 _ ?_
 refine .ret ?_
 exact hK _ _ _ _ trivial ((Fin.m).cast (by rw [det_spec]; rfl))
end

end Go.Proofs.YtjbbbkfdcegfmaaGreat

/- Walks: points made by the reference. -/
namespace Go.Proofs.YtjbbbkfdcegfmaaGreat
open Go Go.RowKit
set_option linter.unusedSimpArgs false
set_option linter.unusedVariables false
set_option maxRecDepth 100000
attribute [local simp] szT2 byT2 agT2 unT2 zoT2 szT4 byT4 agT4 unT4 zoT4 szT52 byT52 agT52 unT52 zoT52 szT60 byT60 agT60 flT60 fdT60_0 fdT60_1 fdT60_2 fdT60_3 zoT60 szT62 byT62 agT62 flT62 fdT62_0 fdT62_1 fdT62_2 zoT62 szT83 byT83 agT83 flT83 fdT83_0 fdT83_1 zoT83 szT103 byT103 agT103 elT103 unT103 zoT103 szT105 byT105 agT105 flT105 fdT105_0 fdT105_1 zoT105 szT107 byT107 agT107 flT107 fdT107_0 fdT107_1 fdT107_2 zoT107 szT223 byT223 agT223 unT223 zoT223 srT103 ixT103 lnT103

section
attribute [local simp] idf_numS cells_numS numS_fold
set_option maxHeartbeats 2000000 in
theorem l1Div_fc {j : Nat} (a b : Int) (hb0 : b ≠ 0) (ha : Bg j a) (hb : Bg j b) (hj : j ≤ 16777216) : FC Tryz.prog 242 [numS a,numS b] (.tup [numS (a / b),numS (a % b)]):=by
 have hD:=l1DivAbs_fc a.natAbs b.natAbs (by omega) ha.abs hb.abs hj
 rw [dg_abs,dg_abs] at hD
 have eu:=eu_lem a b hb0
 generalize hq : ((a.natAbs / b.natAbs : Nat) : Int) = q0 at *
 generalize hr : ((a.natAbs % b.natAbs : Nat) : Int) = r0 at *
 have q0n : 0 ≤ q0:=by rw [← hq]; exact Int.natCast_nonneg _
 have r0n : 0 ≤ r0:=by rw [← hr]; exact Int.natCast_nonneg _
 have bq : Bg j q0:=by
   rw [← hq]; unfold Bg at *; rw [Int.natAbs_natCast]; have:=Nat.div_le_self a.natAbs b.natAbs; omega
 have br : Bg j r0:=by
   rw [← hr]; unfold Bg at *; rw [Int.natAbs_natCast]; have:=Nat.mod_le a.natAbs b.natAbs; omega
 have bqs : ∀ s,Bg j (sg s q0):=fun s=>by cases s <;> simp only [sg_true,sg_false]; exact bq; exact bq.neg
 have brs : ∀ s,Bg j (sg s r0):=fun s=>by cases s <;> simp only [sg_true,sg_false]; exact br; exact br.neg
 have lq:=bq.len32
 have lr:=br.len32
 have hT1:=l1Trim_fc (decide (a < 0) != decide (b < 0)) (dg q0) (by omega) (dg_dig _)
 rw [dg_val,Int.natAbs_of_nonneg q0n] at hT1
 have hT2:=l1Trim_fc (decide (a < 0)) (dg r0) (by omega) (dg_dig _)
 rw [dg_val,Int.natAbs_of_nonneg r0n] at hT2
 obtain ⟨S,hS⟩ : ∃ S,(decide (a < 0) != decide (b < 0)) = S:=⟨_,rfl⟩
 have hS2 : (decide (a < 0) == decide (b < 0)) = !S:=by rw [← hS]; cases decide (a < 0) <;> cases decide (b < 0) <;> rfl
 rw [hS] at eu hT1
 refine .b Tryz.func242 47 (fun nx K hK=>?_)
 refine .q ?_
 refine .sq fun K2 hK2=>?_
 refine .region ?_
 refine .kf 4 hD hb175 ?_
 refine .e ?_
 refine hK2 _ ?_
 refine .sq fun K3 hK3=>?_
 refine .region ?_
 refine .kf 6 hT1 hb176 ?_ (by simp (disch:=first|exact zd|fail) [List.take_succ_cons,List.take_zero,hS2]; rfl) (ha:=by simp (disch:=first|exact zd|fail) [idf_Wd',hS2])
 refine .e ?_ (by simp (disch:=first|exact zd|fail) [hS2]; rfl)
 refine hK3 _ ?_
 refine .sq fun K4 hK4=>?_
 refine .region ?_
 refine .kf 3 hT2 hb176 ?_
 refine .e ?_
 refine hK4 _ ?_
 refine .sq fun K5 hK5=>?_
 refine .q ?_
 refine .c (t:=decide (sg (decide (a < 0)) r0 < 0)) (fun h30=>?_) (fun h30=>?_)
 ·try simp only[dc]at h30
  refine .q ?_
  refine .c (t:=decide (b < 0)) (fun h32=>?_) (fun h32=>?_)
  ·try simp only[dc]at h32
   have e:=eu.2.1 h30 h32
   refine .sq fun K8 hK8=>?_
   refine .d 3 ?_
   refine .k 1 (fun fs9 hfs9=>?_)
   refine .f (l1Int_fc 1 (by omega) (by omega)) hb134 ?_
   refine .f (l1Add_fc (bqs S) (Bg.i64 (n:=1) (by omega) (by omega)) (by omega) (by omega)) hb167 ?_
   refine .r 3 (by simp only[ln,hfs9];omega) ?_
   refine hK8 _ ?_
   refine .region ?_
   refine .kf 2 (l1Sub_fc (brs (decide (a < 0))) hb (by omega) (by omega)) hb166 ?_
   refine .e ?_
   refine hK5 _ ?_
   refine .sq fun K10 hK10=>?_
   refine .old fun hold=>?_
   refine .d 2 ?_
   refine .k 1 (fun fs11 hfs11=>?_)
   refine DP.runF1q (by simp (disch:=first|exact zd|fail); rfl) fun fq12 hfq12=>?_
   simp [qids,asksB,Op.operands,topId] at hfq12
   simp only [updo]
   refine DQ.sto1 (m:=2) [1] _ (by simp (disch:=first|exact zd|fail); rfl) rfl (by simp only[ln,hfs11];omega) (by kernel_rfl) (by intro k f hk hex; simp only [List.mem_cons,List.not_mem_nil,or_false] at hex; rcases hex with rfl <;> (simp [List.getElem?_append,hfs11] at hk; subst hk; refine ⟨?_,by first | omega | (simp; done) | (simp; omega)⟩; simp [qids,asksB,Op.operands,Call.operands,topId,numS,numI,Wd,hfq12]; try omega)) ?_
   try simp only []
   refine DQ.sto1 (m:=2) [] _ (by simp (disch:=first|exact zd|fail); rfl) rfl (by simp only[ln,hfs11];omega) (by kernel_rfl) (by intro k f hk hex; simp only [List.not_mem_nil] at hex) ?_
   try simp only []
   refine hK10 _ ?_
   refine .ret ?_
   exact hK _ _ _ _ trivial ((Fin.m).cast (by rw [e.1,e.2]))
  ·try simp only[dc]at h32
   have e:=eu.2.2 h30 h32
   refine .sq fun K13 hK13=>?_
   refine .d 3 ?_
   refine .k 1 (fun fs14 hfs14=>?_)
   refine .f (l1Int_fc 1 (by omega) (by omega)) hb134 ?_
   refine .f (l1Sub_fc (bqs S) (Bg.i64 (n:=1) (by omega) (by omega)) (by omega) (by omega)) hb166 ?_
   refine .r 3 (by simp only[ln,hfs14];omega) ?_
   refine hK13 _ ?_
   refine .region ?_
   refine .kf 2 (l1Add_fc (brs (decide (a < 0))) hb (by omega) (by omega)) hb167 ?_
   refine .e ?_
   refine hK5 _ ?_
   refine .sq fun K15 hK15=>?_
   refine .old fun hold=>?_
   refine .d 2 ?_
   refine .k 1 (fun fs16 hfs16=>?_)
   refine DP.runF1q (by simp (disch:=first|exact zd|fail); rfl) fun fq17 hfq17=>?_
   simp [qids,asksB,Op.operands,topId] at hfq17
   simp only [updo]
   refine DQ.sto1 (m:=2) [1] _ (by simp (disch:=first|exact zd|fail); rfl) rfl (by simp only[ln,hfs16];omega) (by kernel_rfl) (by intro k f hk hex; simp only [List.mem_cons,List.not_mem_nil,or_false] at hex; rcases hex with rfl <;> (simp [List.getElem?_append,hfs16] at hk; subst hk; refine ⟨?_,by first | omega | (simp; done) | (simp; omega)⟩; simp [qids,asksB,Op.operands,Call.operands,topId,numS,numI,Wd,hfq17]; try omega)) ?_
   try simp only []
   refine DQ.sto1 (m:=2) [] _ (by simp (disch:=first|exact zd|fail); rfl) rfl (by simp only[ln,hfs16];omega) (by kernel_rfl) (by intro k f hk hex; simp only [List.not_mem_nil] at hex) ?_
   try simp only []
   refine hK15 _ ?_
   refine .ret ?_
   exact hK _ _ _ _ trivial ((Fin.m).cast (by rw [e.1,e.2]))
 ·try simp only[dc]at h30
  have e:=eu.1 h30
  refine .skip ?_
  refine hK5 _ ?_
  refine .sq fun K18 hK18=>?_
  refine .old fun hold=>?_
  refine .d 2 ?_
  refine .k 1 (fun fs19 hfs19=>?_)
  refine DP.runF1q (by simp (disch:=first|exact zd|fail); rfl) fun fq20 hfq20=>?_
  simp [qids,asksB,Op.operands,topId] at hfq20
  simp only [updo]
  refine DQ.sto1 (m:=2) [1] _ (by simp (disch:=first|exact zd|fail); rfl) rfl (by simp only[ln,hfs19];omega) (by kernel_rfl) (by intro k f hk hex; simp only [List.mem_cons,List.not_mem_nil,or_false] at hex; rcases hex with rfl <;> (simp [List.getElem?_append,hfs19] at hk; subst hk; refine ⟨?_,by first | omega | (simp; done) | (simp; omega)⟩; simp [qids,asksB,Op.operands,Call.operands,topId,numS,numI,Wd,hfq20]; try omega)) ?_
  try simp only []
  refine DQ.sto1 (m:=2) [] _ (by simp (disch:=first|exact zd|fail); rfl) rfl (by simp only[ln,hfs19];omega) (by kernel_rfl) (by intro k f hk hex; simp only [List.not_mem_nil] at hex) ?_
  try simp only []
  refine hK18 _ ?_
  refine .ret ?_
  exact hK _ _ _ _ trivial ((Fin.m).cast (by rw [e.1,e.2]))
set_option maxHeartbeats 2000000 in
theorem l3Make_fc {j : Nat} (x y w : Int) (hw : w ≠ 0) (bx : Bg j x) (bY : Bg j y) (bw : Bg j w) (hj0 : 1 ≤ j) (hj : j ≤ 16777216) : FC Tryz.prog 191 [numS x,numS y,numS w] (l3A (nrm w x / gcd3 x y w) (nrm w y / gcd3 x y w) (nrm w w / gcd3 x y w)):=by
 have hgp:=gcd3_pos (x:=x) (y:=y) hw
 have hg3:=gcd3_nrm x y w
 refine .b Tryz.func191 47 (fun nx K hK=>?_) (hr:=by simp [idfL,idf,l3A,l3C,idf_Wd'])
 refine .q ?_
 refine .sq fun K2 hK2=>?_
 have J2 : ∀ s : St,(∃ X Y W : Int,X = nrm w x ∧ Y = nrm w y ∧ W = nrm w w ∧ s.env 3 = .ptr nx 0 0 ∧ s.env 4 = .ptr (nx + 1) 0 0 ∧ s.env 5 = .ptr (nx + 1 + 1) 0 0 ∧ s.env 6 = .ptr (nx + 1 + 1 + 1) 0 0 ∧ s.heap nx = some (2,[[.bool (decide (X < 0)),Wd .u32 (dg X)]]) ∧ s.heap (nx + 1) = some (2,[[.bool (decide (Y < 0)),Wd .u32 (dg Y)]]) ∧ s.heap (nx + 1 + 1) = some (2,[[.bool (decide (W < 0)),Wd .u32 (dg W)]]) ∧ s.heap (nx + 1 + 1 + 1) = some (6,[[.bool false,.nsl,.bool false,.nsl,.bool false,.nsl]]) ∧ nx + 1 + 1 + 1 < s.nx ∧ s.nt = 47) → K2 s:=by
  rintro ⟨e,H,mm,nt⟩ ⟨X,Y,W,hX,hY,hW,h3,h4,h5,h6,hA,hB,hC,hD,hm,rfl⟩
  simp only [] at h3 h4 h5 h6 hA hB hC hD hm
  rw [← hX,← hY,← hW] at hg3
  have cX : Bg j X:=by rw [hX]; exact bx.nrm
  have cY : Bg j Y:=by rw [hY]; exact bY.nrm
  have cW : Bg j W:=by rw [hW]; exact bw.nrm
  have bG1 : Bg j ((Int.gcd X Y : Nat) : Int):=Bg.gcd cX.abs cY.abs
  have bG : Bg j (gcd3 x y w):=by rw [← hg3]; exact Bg.gcd bG1 cW.abs
  have hg2 : FC Tryz.prog 133 [numS ((Int.gcd X Y : Nat) : Int),numS W] (numS (gcd3 x y w)):=by
    have h:=l1Gcd_fc ((Int.gcd X Y : Nat) : Int) W bG1 cW hj
    have e : ((Int.gcd ((Int.gcd X Y : Nat) : Int) W : Nat) : Int) = gcd3 x y w:=by rw [← hg3]; simp [Int.gcd,gcd3]
    rw [e] at h; exact h
  obtain ⟨cc,hcf,hce⟩ : ∃ c : Int,FC Tryz.prog 132 [numS (gcd3 x y w),numS 1] (.int .i64 c) ∧ (c == 0) = decide (gcd3 x y w = 1):=⟨_,l1Cmp_fc bG (Bg.i64 (n:=1) (by omega) (by omega)) (by omega) (by omega),one_cmp _⟩
  generalize hgg : gcd3 x y w = g at *
  refine hK2 _ ?_
  refine .sq fun K3 hK3=>?_
  refine .d 6 ?_
  refine .k 2 (fun fs4 hfs4=>?_) (by simp (disch:=first|exact zd|fail) [List.take_succ_cons,List.take_zero,h3,h4,h5,hA,hB,hC,Nat.ne_of_lt hm]; rfl)
  refine .f (l1Gcd_fc X Y cX cY hj) hb133 ?_ (ha:=by simp (disch:=first|exact zd|fail) [idf_Wd',h3,h4,h5,hA,hB,hC,Nat.ne_of_lt hm])
  refine .k 1 (fun fs5 hfs5=>?_) (by simp (disch:=first|exact zd|fail) [List.take_succ_cons,List.take_zero,h3,h4,h5,hA,hB,hC,Nat.ne_of_lt hm]; rfl)
  refine .f hg2 hb133 ?_ (ha:=by simp (disch:=first|exact zd|fail) [idf_Wd',h3,h4,h5,hA,hB,hC,Nat.ne_of_lt hm])
  refine .k 1 (fun fs6 hfs6=>?_) (by simp (disch:=first|exact zd|fail) [List.take_succ_cons,List.take_zero,h3,h4,h5,hA,hB,hC,Nat.ne_of_lt hm]; rfl)
  refine .r 6 (by simp only[ln,hfs4,hfs5,hfs6];omega) ?_ (by simp (disch:=first|exact zd|fail) [h3,h4,h5,hA,hB,hC,Nat.ne_of_lt hm]; rfl)
  refine hK3 _ ?_
  refine .sq fun K7 hK7=>?_
  refine .sq fun K8 hK8=>?_
  refine .d 4 ?_
  refine .k 1 (fun fs9 hfs9=>?_)
  refine .f (l1Int_fc 1 (by omega) (by omega)) hb134 ?_
  refine .f hcf hb132 ?_
  refine .k 1 (fun fs10 hfs10=>?_)
  refine .r 4 (by simp only[ln,hfs9,hfs10];omega) ?_
  refine hK8 _ ?_
  refine .c (t:=!decide (g = 1)) (fun h24=>?_) (fun h24=>?_) (by simp (disch:=first|exact zd|fail) [bne,hce])
  ·try simp only[dc]at h24
   refine .sq fun K11 hK11=>?_
   refine .region ?_
   refine .kf 2 (l1Div_fc X g (by omega) cX bG hj) hb242 ?_ (by simp (disch:=first|exact zd|fail) [List.take_succ_cons,List.take_zero,h3,hA]; rfl) (ha:=by simp (disch:=first|exact zd|fail) [idf_Wd',h3,hA])
   refine .e ?_ (by simp (disch:=first|exact zd|fail) [h3,hA]; rfl)
   refine hK11 _ ?_
   refine .sq fun K12 hK12=>?_
   refine .region ?_
   refine .kf 2 (l1Div_fc Y g (by omega) cY bG hj) hb242 ?_ (by simp (disch:=first|exact zd|fail) [List.take_succ_cons,List.take_zero,h4,hB]; rfl) (ha:=by simp (disch:=first|exact zd|fail) [idf_Wd',h4,hB])
   refine .e ?_ (by simp (disch:=first|exact zd|fail) [h4,hB]; rfl)
   refine hK12 _ ?_
   refine .region ?_
   refine .kf 2 (l1Div_fc W g (by omega) cW bG hj) hb242 ?_ (by simp (disch:=first|exact zd|fail) [List.take_succ_cons,List.take_zero,h5,hC]; rfl) (ha:=by simp (disch:=first|exact zd|fail) [idf_Wd',h5,hC])
   refine .e ?_ (by simp (disch:=first|exact zd|fail) [h5,hC]; rfl)
   refine hK7 _ ?_
   refine .q ?_ (by simp (disch:=first|exact zd|fail) [h3,h4,h5,h6,hD]; rfl)
   refine .ret ?_
   exact hK _ _ _ _ trivial ((Fin.mk (by simp (disch:=omega) [aRes,aResL,aRes1,h6]; rfl)).cast (by rw [← hX,← hY,← hW]; first | done | rfl))
  ·try simp only[dc]at h24
   have hg1 : g = 1:=by simpa using h24
   refine .skip ?_
   refine hK7 _ ?_
   refine .q ?_ (by simp (disch:=first|exact zd|fail) [h3,h4,h5,h6,hA,hB,hC,hD]; rfl)
   refine .ret ?_
   exact hK _ _ _ _ trivial ((Fin.mk (by simp (disch:=omega) [aRes,aResL,aRes1,h6]; rfl)).cast (by rw [← hX,← hY,← hW,hg1,Int.ediv_one,Int.ediv_one,Int.ediv_one]; first | done | rfl))
 refine .q ?_
 refine .c (t:=decide (w < 0)) (fun h9=>?_) (fun h9=>?_)
 ·try simp only[dc]at h9
  refine .old fun hold=>?_
  refine .d 6 ?_
  refine .k 1 (fun fs16 hfs16=>?_)
  refine .f (l1Neg_fc x) hb221 ?_
  refine DP.runF1q (by simp (disch:=first|exact zd|fail); rfl) fun fq17 hfq17=>?_
  simp [qids,asksB,Op.operands,topId] at hfq17
  simp only [updo]
  refine .f (l1Neg_fc y) hb221 ?_
  refine DP.runF1q (by simp (disch:=first|exact zd|fail); rfl) fun fq18 hfq18=>?_
  simp [qids,asksB,Op.operands,topId] at hfq18
  simp only [updo]
  refine .f (l1Neg_fc w) hb221 ?_
  refine DQ.sto1 (m:=6) [2,3,4] _ (by simp (disch:=first|exact zd|fail); rfl) rfl (by simp only[ln,hfs16];omega) (by kernel_rfl) (by intro k f hk hex; simp only [List.mem_cons,List.not_mem_nil,or_false] at hex; rcases hex with rfl | rfl | rfl <;> (simp [List.getElem?_append,hfs16] at hk; subst hk; refine ⟨?_,by first | omega | (simp; done) | (simp; omega)⟩; simp [qids,asksB,Op.operands,Call.operands,topId,numS,numI,Wd,hfq17,hfq18]; try omega)) ?_
  try simp only []
  refine DQ.sto1 (m:=6) [4,5] _ (by simp (disch:=first|exact zd|fail); rfl) rfl (by simp only[ln,hfs16];omega) (by kernel_rfl) (by intro k f hk hex; simp only [List.mem_cons,List.not_mem_nil,or_false] at hex; rcases hex with rfl | rfl <;> (simp [List.getElem?_append,hfs16] at hk; subst hk; refine ⟨?_,by first | omega | (simp; done) | (simp; omega)⟩; simp [qids,asksB,Op.operands,Call.operands,topId,numS,numI,Wd,hfq17,hfq18]; try omega)) ?_
  try simp only []
  refine DQ.sto1 (m:=6) [] _ (by simp (disch:=first|exact zd|fail); rfl) rfl (by simp only[ln,hfs16];omega) (by kernel_rfl) (by intro k f hk hex; simp only [List.not_mem_nil] at hex) ?_
  try simp only []
  refine J2 _ ?_
  exact ⟨-x,-y,-w,by simp [nrm,h9],by simp [nrm,h9],by simp [nrm,h9],by simp,by simp,by simp,by simp,by simp (disch:=omega),by simp (disch:=omega),by simp (disch:=omega),by simp (disch:=omega),by simp,rfl⟩
 ·try simp only[dc]at h9
  refine .skip ?_
  refine J2 _ ?_
  exact ⟨x,y,w,by simp [nrm,h9],by simp [nrm,h9],by simp [nrm,h9],by simp,by simp,by simp,by simp,by simp (disch:=omega),by simp (disch:=omega),by simp (disch:=omega),by simp (disch:=omega),by simp,rfl⟩
end
section
attribute [local simp] idf_numS cells_numS numS_fold l3A l3C
end
section
attribute [local simp] idf_numS cells_numS numS_fold
theorem l3Spot_fc (x y : Int) (hx1 : -9223372036854775808 ≤ x) (hx2 : x ≤ 9223372036854775807) (hy1 : -9223372036854775808 ≤ y) (hy2 : y ≤ 9223372036854775807) : FC Tryz.prog 151 [.agg [.int .i64 x,.int .i64 y]] (l3A x y 1):=by
 refine .b Tryz.func151 11 (fun nx K hK=>?_) (hr:=by simp [idfL,idf,l3A,l3C,idf_Wd'])
 refine .q ?_
 refine .sq fun K2 hK2=>?_
 refine .d 8 ?_
 refine .k 2 (fun fs3 hfs3=>?_)
 refine .f (l1Int_fc x hx1 hx2) hb134 ?_
 refine .k 2 (fun fs4 hfs4=>?_)
 refine .f (l1Int_fc y hy1 hy2) hb134 ?_
 refine .f (l1Int_fc 1 (by omega) (by omega)) hb134 ?_
 refine .k 1 (fun fs5 hfs5=>?_)
 refine .r 8 (by simp only[ln,hfs3,hfs4,hfs5];omega) ?_
 refine hK2 _ ?_
 refine .ret ?_
 exact hK _ _ _ _ trivial ((Fin.m).cast (by rfl))
end

end Go.Proofs.YtjbbbkfdcegfmaaGreat

/- Walks: points made and halved by the reference. -/
namespace Go.Proofs.YtjbbbkfdcegfmaaGreat
open Go Go.RowKit
set_option linter.unusedSimpArgs false
set_option linter.unusedVariables false
set_option maxRecDepth 100000


theorem eqW1 (n : Nat) (a a' : Int) : eqW Tryz.prog (n + 1) 52 [.int .u64 a] [.int .u64 a'] = some (a == a'):=by
  unfold eqW; simp only [Tryz.underlying52]; rfl
end Go.Proofs.YtjbbbkfdcegfmaaGreat
