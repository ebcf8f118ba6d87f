/- Walks: numbers of 64 bits: products, lengths, quotients. -/
import Derived.Test.YtjbbbkfdcegfmaaGreatG12
import Derived.Test.YtjbbbkfdcegfmaaGreatG14

namespace Go.Proofs.YtjbbbkfdcegfmaaGreat
open Go Go.RowKit
set_option linter.unusedSimpArgs false
set_option linter.unusedVariables false
set_option maxRecDepth 100000
attribute [local simp] szT3 byT3 agT3 unT3 zoT3 szT5 byT5 agT5 unT5 zoT5 szT9 byT9 agT9 stT9 zoT9 szT52 byT52 agT52 unT52 zoT52

section
attribute [local simp] wrap_u64m and_low32 IntKind.bits Int.fdiv_eq_ediv_of_nonneg
set_option maxHeartbeats 1000000 in
theorem mul64_fc (x y : Int) (hx0 : 0 ≤ x) (hx : x < 18446744073709551616) (hy0 : 0 ≤ y) (hy : y < 18446744073709551616) : FC Tryz.prog 238 [.int .u64 x,.int .u64 y] (.tup [.int .u64 (x * y / 18446744073709551616),.int .u64 (x * y % 18446744073709551616)]):=by
 refine .b Tryz.func238 51 (fun nx K hK=>?_)
 refine .q ?_
 refine .q ?_
 refine .q ?_
 refine .q ?_
 refine .q ?_
 refine .q ?_
 refine .q ?_
 refine .q ?_
 refine .q ?_
 refine .q ?_
 refine .q ?_
 refine .q ?_
 refine .ret ?_
 exact hK _ _ _ _ trivial ((Fin.mk (by simp (disch:=omega) [aRes,aResL,aRes1]; rfl)).cast (by rw [mul64_hi x y hx0 hx hy0 hy]))
end
section
attribute [local simp] IntKind.bits Int.fdiv_eq_ediv_of_nonneg
set_option maxHeartbeats 1000000 in
theorem len64_fc (x : Nat) (hx : x < 18446744073709551616) : FC Tryz.prog 212 [.int .u64 (x : Int)] (.int .i64 (bitLen x : Int)):=by
 refine .b Tryz.func212 25 (fun nx K hK=>?_)
 refine .q ?_
 refine .sq fun K2 hK2=>?_
 have J2 : ∀ s : St,(∃ y n : Nat,s.env 0 = .int .u64 (y : Int) ∧ s.env 2 = .int .i64 (n : Int) ∧ y < 4294967296 ∧ n ≤ 32 ∧ n + bitLen y = bitLen x ∧ s.heap = (fun _=>none) ∧ s.nt = 25) → K2 s:=by
  rintro ⟨e,H,nx,nt⟩ ⟨y,n,h0,h2,hy,hn,hb,rfl,rfl⟩
  simp only [] at h0 h2
  refine hK2 _ ?_
  refine .sq fun K3 hK3=>?_
  have J3 : ∀ s : St,(∃ y n : Nat,s.env 0 = .int .u64 (y : Int) ∧ s.env 2 = .int .i64 (n : Int) ∧ y < 65536 ∧ n ≤ 48 ∧ n + bitLen y = bitLen x ∧ s.heap = (fun _=>none) ∧ s.nt = 25) → K3 s:=by
   clear h0 h2 hb
   rintro ⟨e,H,nx,nt⟩ ⟨y,n,h0,h2,hy,hn,hb,rfl,rfl⟩
   simp only [] at h0 h2
   refine hK3 _ ?_
   refine .sq fun K4 hK4=>?_
   have J4 : ∀ s : St,(∃ y n : Nat,s.env 0 = .int .u64 (y : Int) ∧ s.env 2 = .int .i64 (n : Int) ∧ y < 256 ∧ n ≤ 56 ∧ n + bitLen y = bitLen x ∧ s.heap = (fun _=>none) ∧ s.nt = 25) → K4 s:=by
    clear h0 h2 hb
    rintro ⟨e,H,nx,nt⟩ ⟨y,n,h0,h2,hy,hn,hb,rfl,rfl⟩
    simp only [] at h0 h2
    have hl:=bitLen_le8 y hy
    refine hK4 _ ?_
    refine .sq fun K5 hK5=>?_
    refine AWP.region ?_
    refine AOPS.runk 3 (by simp (disch:=first|exact zd|fail) [List.take_succ_cons,List.take_zero,h0,h2]; rfl) ?_
    simp only [List.drop_succ_cons,List.drop_zero]
    refine AOPS.opval (.int .u8 (bitLen y : Int)) (by simp (disch:=first|exact zd|fail) [List.take_succ_cons,List.take_zero,h0,h2]; exact tab_of _ (by kernel_rfl) y hy) (by simp) (by simp) ?_
    simp only [puts_some]
    refine AOPS.all (by simp (disch:=first|exact zd|fail) [List.take_succ_cons,List.take_zero,h0,h2]; rfl) ?_
    refine hK5 _ ?_
    refine .ret ?_
    exact hK _ _ _ _ trivial ((Fin.mk (by simp [aRes,aResL,aRes1]; rfl)).cast (by congr 1; omega))
   refine .q ?_ (by simp (disch:=first|exact zd|fail) [h0,h2]; rfl)
   refine .c (fun h14=>?_) (fun h14=>?_)
   ·try simp only[dc]at h14
    refine .q ?_ (by simp (disch:=first|exact zd|fail) [h0,h2]; rfl)
    refine .r ?_ (by simp (disch:=first|exact zd|fail) [h0,h2]; rfl)
    refine J4 _ ?_
    exact ⟨y / 256,n + 8,by simp [h0],by simp (disch:=omega) [h2],by omega,by omega,by have h:=bitLen_shift y 8 (by omega); rw [show (2 : Nat) ^ 8 = 256 from rfl] at h; omega,rfl,rfl⟩
   ·try simp only[dc]at h14
    refine .skip ?_
    refine J4 _ ?_
    exact ⟨y,n,by simp [h0],by simp [h2],by omega,by omega,hb,rfl,rfl⟩
  refine .q ?_ (by simp (disch:=first|exact zd|fail) [h0,h2]; rfl)
  refine .c (fun h8=>?_) (fun h8=>?_)
  ·try simp only[dc]at h8
   refine .q ?_ (by simp (disch:=first|exact zd|fail) [h0,h2]; rfl)
   refine .r ?_ (by simp (disch:=first|exact zd|fail) [h0,h2]; rfl)
   refine J3 _ ?_
   exact ⟨y / 65536,n + 16,by simp [h0],by simp (disch:=omega) [h2],by omega,by omega,by have h:=bitLen_shift y 16 (by omega); rw [show (2 : Nat) ^ 16 = 65536 from rfl] at h; omega,rfl,rfl⟩
  ·try simp only[dc]at h8
   refine .skip ?_
   refine J3 _ ?_
   exact ⟨y,n,by simp [h0],by simp [h2],by omega,by omega,hb,rfl,rfl⟩
 refine .q ?_
 refine .c (fun h4=>?_) (fun h4=>?_)
 ·try simp only[dc]at h4
  refine .q ?_
  refine .r ?_
  refine J2 _ ?_
  exact ⟨x / 4294967296,32,by simp,by simp,by omega,by omega,(bitLen_shift x 32 (by omega)).symm,rfl,rfl⟩
 ·try simp only[dc]at h4
  refine .skip ?_
  refine J2 _ ?_
  exact ⟨x,0,by simp,by simp,by omega,by omega,by omega,rfl,rfl⟩
end
theorem lz64_fc (x : Nat) (hx : x < 18446744073709551616) : FC Tryz.prog 179 [.int .u64 (x : Int)] (.int .i64 (64 - (bitLen x : Int))):=by
 have hb : bitLen x ≤ 64:=by
   unfold bitLen; split
   · omega
   · rename_i h0
     have:=(Nat.log2_lt h0).2 (show x < 2 ^ 64 from hx)
     omega
 refine .b Tryz.func179 6 (fun nx K hK=>?_)
 refine .q ?_
 refine .sq fun K2 hK2=>?_
 refine .region ?_
 refine .kf 1 (len64_fc x hx) hb212 ?_
 refine .e ?_
 refine hK2 _ ?_
 refine .ret ?_
 exact hK _ _ _ _ trivial (Fin.m)

end Go.Proofs.YtjbbbkfdcegfmaaGreat

/- Walks: rows of words of the program. -/
namespace Go.Proofs.YtjbbbkfdcegfmaaGreat
open Go Go.RowKit
set_option linter.unusedSimpArgs false
set_option linter.unusedVariables false
set_option maxRecDepth 100000
attribute [local simp] szT3 byT3 agT3 unT3 zoT3 szT52 byT52 agT52 unT52 zoT52 szT188 byT188 agT188 elT188 unT188 zoT188 srT188 ixT188 lnT188

theorem trim_fc (l : List Int) (hl : l.length ≤ 1099511627776) : FC Tryz.prog 234 [Wd .u64 l] (Wd .u64 (trimW l)):=by
 refine .b Tryz.func234 21 (fun nx K hK=>?_)
 refine .q ?_
 refine .sq fun K2 hK2=>?_
 refine .block ?_
 refine .loop (fun n s=>∃ l',n = l'.length ∧ l'.length ≤ l.length ∧ trimW l' = trimW l ∧ s.env 0 = Wd .u64 l' ∧ s.heap = (fun _=>none) ∧ s.nt = 21) (l.length) (⟨l,rfl,Nat.le_refl _,rfl,by simp,rfl,rfl⟩) ?_
 rintro n ⟨e,H,nx,nt⟩ ⟨l',rfl,hlen,ht,h0,rfl,rfl⟩
 simp only [] at h0
 refine .sq fun K3 hK3=>?_
 refine .sq fun K4 hK4=>?_
 rcases List.eq_nil_or_concat l' with rfl | ⟨l'',x,rfl⟩
 ·refine .r ?_ (by simp (disch:=first|exact zd|fail) [if_pos,h0]; rfl)
  refine hK4 _ ?_
  refine .c (fun h14=>?_) (fun h14=>?_)
  ·simp at h14
  ·try simp only[dc]at h14
   refine .exit ?_
   refine hK2 _ ?_
   refine .q ?_ (by simp (disch:=first|exact zd|fail) [h0]; rfl)
   refine .ret ?_
   exact hK _ _ _ _ trivial (Fin.mk (r:=Wd .u64 (trimW l)) (by simp [aRes,aResL,aRes1,← ht,trimW]))
 ·simp only [List.concat_eq_append,List.length_append,List.length_singleton] at hlen h0 ht
  have hg : gt (l'' ++ [x]) l''.length = x:=by simp [gt]
  refine .r ?_ (by simp (disch:=first|exact zd|fail) [if_pos,h0,hg,ld_ip agT52]; rfl)
  refine hK4 _ ?_
  refine .c (fun h14=>?_) (fun h14=>?_)
  ·try simp only[dc]at h14
   have hx : x = 0:=by simpa using h14
   refine .skip ?_
   refine hK3 _ ?_
   refine .block ?_
   refine .r ?_ (by simp (disch:=first|exact zd|fail) [if_pos,h0,slc_Wd (P:=Tryz.prog) (k:=.u64) (l:=l'' ++ [x]) (lo:=none) (hi:=some (.int .i64 l''.length)) (a:=0) (b:=l''.length) elT188 szT52 rfl (by simp [bnd]) (Nat.zero_le _) (by simp)]; rfl)
   refine ⟨l''.length,by simp,l'',rfl,by omega,?_,by simp,rfl,rfl⟩
   rw [← ht,hx,trimW_concat_zero]
  ·try simp only[dc]at h14
   have hx : x ≠ 0:=by simpa using h14
   refine .exit ?_
   refine hK2 _ ?_
   refine .q ?_ (by simp (disch:=first|exact zd|fail) [h0]; rfl)
   refine .ret ?_
   exact hK _ _ _ _ trivial (Fin.mk (r:=Wd .u64 (trimW l)) (by simp [aRes,aResL,aRes1,← ht,trimW_concat_pos _ _ hx]))
theorem cmpWords_fc (a b : List Int) (ha : a.length ≤ 1099511627776) (hb : b.length ≤ 1099511627776) : FC Tryz.prog 235 [Wd .u64 a,Wd .u64 b] (.int .i64 (cmpI a b)):=by
 refine .b Tryz.func235 41 (fun nx K hK=>?_)
 refine .q ?_
 refine .sq fun K2 hK2=>?_
 refine .q ?_
 refine .c (fun h10=>?_) (fun h10=>?_)
 ·try simp only[dc]at h10
  have hne : a.length ≠ b.length:=by simp at h10; omega
  refine .q ?_
  refine .ret ?_
  exact hK _ _ _ _ trivial (Fin.mk (by simp (disch:=omega) [aRes,aResL,aRes1,cmpI_ne hne]))
 ·try simp only[dc]at h10
  have hne : a.length = b.length:=by simp at h10; omega
  refine .skip ?_
  refine hK2 _ ?_
  refine .sq fun K5 hK5=>?_
  refine .q ?_
  refine .block ?_
  refine .loop (fun n s=>n ≤ a.length ∧ cmpAt a b n = cmpAt a b a.length ∧ s.env 0 = Wd .u64 a ∧ s.env 1 = Wd .u64 b ∧ s.env 5 = .int .i64 ((n : Int) - 1) ∧ s.heap = (fun _=>none) ∧ s.nt = 41) (a.length) (⟨Nat.le_refl _,rfl,by simp,by simp,by simp (disch:=omega),rfl,rfl⟩) ?_
  rintro n ⟨e,H,nx,nt⟩ ⟨hlen,ht,h0,h1,h5,rfl,rfl⟩
  simp only [] at h0 h1 h5
  refine .sq fun K7 hK7=>?_
  refine .q ?_ (by simp (disch:=first|exact zd|fail) [h5]; rfl)
  refine .c (fun h20=>?_) (fun h20=>?_)
  ·try simp only[dc]at h20
   obtain ⟨m,rfl⟩ : ∃ m,n = m + 1:=⟨n - 1,by omega⟩
   replace h5 : e 5 = .int .i64 (m : Int):=by simpa using h5
   refine .skip ?_
   refine hK7 _ ?_
   refine .sq fun K9 hK9=>?_
   refine .block ?_
   refine .sq fun K10 hK10=>?_
   refine .df 9 ?_ (by simp (disch:=first|exact zd|fail) [if_pos,h0,h1,h5,ld_ip agT52]; rfl)
   refine hK10 _ ?_
   refine .c (fun h31=>?_) (fun h31=>?_)
   ·try simp only[dc]at h31
    have hx : gt a m ≠ gt b m:=by simpa using h31
    refine .sq fun K11 hK11=>?_
    refine .sq fun K12 hK12=>?_
    refine .df 9 ?_ (by simp (disch:=first|exact zd|fail) [if_pos,h0,h1,h5,ld_ip agT52]; rfl)
    refine hK12 _ ?_
    refine .c (fun h40=>?_) (fun h40=>?_)
    ·try simp only[dc]at h40
     refine .q ?_
     refine .ret ?_
     exact hK _ _ _ _ trivial (Fin.mk (by simp [aRes,aResL,aRes1,cmpI_of hne,← ht,cmpAt,hx,h40]))
    ·try simp only[dc]at h40
     refine .skip ?_
     refine hK11 _ ?_
     refine .q ?_
     refine .ret ?_
     exact hK _ _ _ _ trivial (Fin.mk (by simp [aRes,aResL,aRes1,cmpI_of hne,← ht,cmpAt,hx,h40]))
   ·try simp only[dc]at h31
    have hx : gt a m = gt b m:=by simpa using h31
    refine .skip ?_
    refine hK9 _ ?_
    refine .r ?_ (by simp (disch:=first|exact zd|fail) [h5]; rfl)
    exact ⟨m,by omega,by omega,by rw [← ht,cmpAt,if_pos hx],by simp [h0],by simp [h1],by simp (disch:=omega),rfl,rfl⟩
  ·try simp only[dc]at h20
   obtain rfl : n = 0:=by omega
   refine .exit ?_
   refine hK5 _ ?_
   refine .q ?_
   refine .ret ?_
   exact hK _ _ _ _ trivial (Fin.mk (by simp [aRes,aResL,aRes1,cmpI_of hne,← ht,cmpAt]))
theorem addWords_fc (a b : List Int) (ha : a.length ≤ 549755813888) (hb : b.length ≤ 549755813888) (da : Dig 18446744073709551616 a) (db : Dig 18446744073709551616 b) : FC Tryz.prog 233 [Wd .u64 a,Wd .u64 b] (Wd .u64 (digs 18446744073709551616 (val 18446744073709551616 a + val 18446744073709551616 b).toNat)):=by
 refine .b Tryz.func233 54 (fun nx K hK=>?_)
 refine .q ?_
 refine .sq fun K2 hK2=>?_
 have J2 : ∀ s : St,(∃ a' b',s.env 0 = Wd .u64 a' ∧ s.env 1 = Wd .u64 b' ∧ b'.length ≤ a'.length ∧ a'.length ≤ 549755813888 ∧ Dig 18446744073709551616 a' ∧ Dig 18446744073709551616 b' ∧ val 18446744073709551616 a' + val 18446744073709551616 b' = val 18446744073709551616 a + val 18446744073709551616 b ∧ s.heap = (fun _=>none) ∧ s.nt = 54) → K2 s:=by
  rintro ⟨e,H,nx,nt⟩ ⟨a',b',h0,h1,hle,hlen,da',db',hv,rfl,rfl⟩
  simp only [] at h0 h1
  refine hK2 _ ?_
  refine .q ?_ (by simp (disch:=first|exact zd|fail) [if_pos,h0,h1]; rfl)
  refine .sq fun K4 hK4=>?_
  refine .q ?_ (by simp (disch:=first|exact zd|fail) [h0,h1]; rfl)
  refine .block ?_
  refine .loop (fun n s=>∃ i out c,n = a'.length - i ∧ i ≤ a'.length ∧ out.length = a'.length + 1 ∧ Dig 18446744073709551616 out ∧ 0 ≤ c ∧ c ≤ 1 ∧ val 18446744073709551616 (out.take i) + c * (18446744073709551616 : Int) ^ i = val 18446744073709551616 (a'.take i) + val 18446744073709551616 (b'.take i) ∧ s.env 0 = Wd .u64 a' ∧ s.env 1 = Wd .u64 b' ∧ s.env 5 = .osl nx 0 (a'.length + 1) ∧ s.env 6 = .int .u64 c ∧ s.env 21 = .int .i64 a'.length ∧ s.env 22 = .int .i64 (i : Int) ∧ s.heap = hupd (fun _=>none) nx (some (1,wd .u64 out)) ∧ s.nt = 54) (a'.length) (⟨0,List.replicate (a'.length + 1) 0,0,by omega,by omega,by simp,Dig.replicate _ (by omega) (by omega),by omega,by omega,by simp [val],by simp [h0],by simp [h1],by simp,by simp,by simp,by simp,by simp,rfl⟩) ?_
  rintro n ⟨e,H,nx2,nt⟩ ⟨i,out,c,rfl,hi,ho,hd,hc0,hc1,hval,h0,h1,h5,h6,h21,h22,rfl,rfl⟩
  simp only [] at h0 h1 h5 h6 h21 h22
  refine .q ?_ (by simp (disch:=first|exact zd|fail) [h21,h22]; rfl)
  refine .sq fun K7 hK7=>?_
  refine .c (fun h23=>?_) (fun h23=>?_)
  ·try simp only[dc]at h23
   have hi' : i < a'.length:=by omega
   refine .skip ?_
   refine hK7 _ ?_
   refine .sq fun K8 hK8=>?_
   refine .block ?_
   refine .q ?_ (by simp (disch:=first|exact zd|fail) [h22]; rfl)
   refine .q ?_
   refine .sq fun K11 hK11=>?_
   have J11 : ∀ s : St,(s.env 0 = Wd .u64 a' ∧ s.env 1 = Wd .u64 b' ∧ s.env 5 = .osl nx 0 (a'.length + 1) ∧ s.env 6 = .int .u64 c ∧ s.env 7 = .int .i64 (i : Int) ∧ s.env 8 = .int .u64 (gt b' i) ∧ s.env 21 = .int .i64 a'.length ∧ s.env 22 = .int .i64 (i : Int) ∧ s.heap = hupd (fun _=>none) nx (some (1,wd .u64 out)) ∧ s.nt = 54) → K11 s:=by
    clear h0 h1 h5 h6 h21 h22
    rintro ⟨e,H,nx2,nt⟩ ⟨h0,h1,h5,h6,h7,h8,h21,h22,rfl,rfl⟩
    simp only [] at h0 h1 h5 h6 h7 h8 h21 h22
    refine hK11 _ ?_
    refine .region ?_
    refine .k 8 ?_ (by simp (disch:=first|exact zd|fail) [List.take_succ_cons,List.take_zero,if_pos,h0,h1,h5,h6,h7,h8,ho,ld_ip agT52]; rfl)
    refine .en (FE.add64 nb239 (gt a' i) (gt b' i) c (da'.gt (by omega) i).1 (db'.gt (by omega) i).1 hc0 hc1) ?_ (ha:=by simp (disch:=first|exact zd|fail) [idf_Wd',if_pos,h0,h1,h5,h6,h7,h8,ho,ld_ip agT52])
    refine .e ?_ (by simp (disch:=first|exact zd|fail) [if_pos,h0,h1,h5,h6,h7,h8,ho,ld_ip agT52]; rfl)
    refine hK8 _ ?_
    refine .r ?_ (by simp (disch:=first|exact zd|fail) [h22]; rfl)
    have hga:=da'.gt (by omega) i
    have hgb:=db'.gt (by omega) i
    refine ⟨a'.length - (i + 1),by omega,i + 1,out.set i ((gt a' i + gt b' i + c) % 18446744073709551616),(gt a' i + gt b' i + c) / 18446744073709551616,rfl,by omega,by simp [ho],hd.set i (by omega) (by omega),by omega,by omega,?_,by simp [h0],by simp [h1],by simp [h5],by simp,by simp [h21],by simp (disch:=omega) [h22],by simp,rfl⟩
    rw [val_set_take (by omega),val_take_succ,val_take_succ,Int.pow_succ]
    have:=Int.emod_add_mul_ediv (gt a' i + gt b' i + c) 18446744073709551616
    grind
   refine .q ?_ (by simp (disch:=first|exact zd|fail) [h1]; rfl)
   refine .c (fun h28=>?_) (fun h28=>?_)
   ·try simp only[dc]at h28
    have hib : i < b'.length:=by omega
    refine .r ?_ (by simp (disch:=first|exact zd|fail) [if_pos,h1,ld_ip agT52]; rfl)
    refine J11 _ ?_
    exact ⟨by simp [h0],by simp [h1],by simp [h5],by simp [h6],by simp,by simp,by simp [h21],by simp [h22],rfl,rfl⟩
   ·try simp only[dc]at h28
    refine .skip ?_
    refine J11 _ ?_
    exact ⟨by simp [h0],by simp [h1],by simp [h5],by simp [h6],by simp,by simp [gt_ge (show b'.length ≤ i by omega)],by simp [h21],by simp [h22],rfl,rfl⟩
  ·try simp only[dc]at h23
   obtain rfl : i = a'.length:=by omega
   refine .exit ?_
   refine hK4 _ ?_
   refine .q ?_ (by simp (disch:=first|exact zd|fail) [if_pos,h0,h5,h6,ho]; rfl)
   refine .sq fun K14 hK14=>?_
   refine AWP.frz nx 1 (wd .u64 (out.set a'.length c)) (by simp) ?_
   have hfz : fz nx (wd .u64 (out.set a'.length c)) (.osl nx 0 (a'.length + 1)) = Wd .u64 (out.set a'.length c):=fz_wd (by simp [ho])
   refine .region ?_
   refine .kf 1 (trim_fc (out.set a'.length c) (by simp; omega)) hb234 ?_ (by simp (disch:=first|exact zd|fail) [List.take_succ_cons,List.take_zero,h5,hfz]; rfl) (ha:=by simp (disch:=first|exact zd|fail) [idf_Wd',h5,hfz])
   refine .e ?_ (by simp (disch:=first|exact zd|fail) [h5,hfz]; rfl)
   refine hK14 _ ?_
   refine .ret ?_
   have hd2 : Dig 18446744073709551616 (out.set a'.length c):=hd.set _ (by omega) (by omega)
   have hv2 : val 18446744073709551616 (out.set a'.length c) = val 18446744073709551616 a + val 18446744073709551616 b:=by
     have e1:=val_set_take (B:=18446744073709551616) (v:=c) (show a'.length < out.length by omega)
     rw [val_take_all (by simp; omega)] at e1
     rw [val_take_all (Nat.le_refl _),val_take_all hle] at hval
     grind
   exact hK _ _ _ _ trivial ((Fin.mk (r:=Wd .u64 (trimW (out.set a'.length c))) (by simp [aRes,aResL,aRes1])).cast (by rw [trimW_digs (by omega) hd2,hv2]))
 refine .q ?_
 refine .c (fun h13=>?_) (fun h13=>?_)
 ·try simp only[dc]at h13
  refine .r ?_
  refine J2 _ ?_
  exact ⟨b,a,by simp,by simp,by omega,hb,db,da,by omega,rfl,rfl⟩
 ·try simp only[dc]at h13
  refine .skip ?_
  refine J2 _ ?_
  exact ⟨a,b,by simp,by simp,by omega,ha,da,db,rfl,rfl,rfl⟩
theorem subWords_fc (a b : List Int) (ha : a.length ≤ 549755813888) (hle : b.length ≤ a.length) (da : Dig 18446744073709551616 a) (db : Dig 18446744073709551616 b) (hba : val 18446744073709551616 b ≤ val 18446744073709551616 a) : FC Tryz.prog 244 [Wd .u64 a,Wd .u64 b] (Wd .u64 (digs 18446744073709551616 (val 18446744073709551616 a - val 18446744073709551616 b).toNat)):=by
 refine .b Tryz.func244 41 (fun nx K hK=>?_)
 refine .q ?_
 refine .q ?_ (by simp (disch:=first|exact zd|fail) [if_pos]; rfl)
 refine .sq fun K3 hK3=>?_
 refine .q ?_
 refine .block ?_
 refine .loop (fun n s=>∃ i out c,n = a.length - i ∧ i ≤ a.length ∧ out.length = a.length ∧ Dig 18446744073709551616 out ∧ 0 ≤ c ∧ c ≤ 1 ∧ val 18446744073709551616 (out.take i) - c * (18446744073709551616 : Int) ^ i = val 18446744073709551616 (a.take i) - val 18446744073709551616 (b.take i) ∧ s.env 0 = Wd .u64 a ∧ s.env 1 = Wd .u64 b ∧ s.env 5 = .osl nx 0 a.length ∧ s.env 6 = .int .u64 c ∧ s.env 13 = .int .i64 a.length ∧ s.env 14 = .int .i64 (i : Int) ∧ s.heap = hupd (fun _=>none) nx (some (1,wd .u64 out)) ∧ s.nt = 41) (a.length) (⟨0,List.replicate a.length 0,0,by omega,by omega,by simp,Dig.replicate _ (by omega) (by omega),by omega,by omega,by simp [val],by simp,by simp,by simp,by simp,by simp,by simp,by simp,rfl⟩) ?_
 rintro n ⟨e,H,nx2,nt⟩ ⟨i,out,c,rfl,hi,ho,hd,hc0,hc1,hval,h0,h1,h5,h6,h13,h14,rfl,rfl⟩
 simp only [] at h0 h1 h5 h6 h13 h14
 refine .q ?_ (by simp (disch:=first|exact zd|fail) [h13,h14]; rfl)
 refine .sq fun K6 hK6=>?_
 refine .c (fun h15=>?_) (fun h15=>?_)
 ·try simp only[dc]at h15
  have hi' : i < a.length:=by omega
  refine .skip ?_
  refine hK6 _ ?_
  refine .sq fun K7 hK7=>?_
  refine .block ?_
  refine .q ?_ (by simp (disch:=first|exact zd|fail) [h14]; rfl)
  refine .q ?_
  refine .sq fun K10 hK10=>?_
  have J10 : ∀ s : St,(s.env 0 = Wd .u64 a ∧ s.env 1 = Wd .u64 b ∧ s.env 5 = .osl nx 0 a.length ∧ s.env 6 = .int .u64 c ∧ s.env 7 = .int .i64 (i : Int) ∧ s.env 8 = .int .u64 (gt b i) ∧ s.env 13 = .int .i64 a.length ∧ s.env 14 = .int .i64 (i : Int) ∧ s.heap = hupd (fun _=>none) nx (some (1,wd .u64 out)) ∧ s.nt = 41) → K10 s:=by
   clear h0 h1 h5 h6 h13 h14
   rintro ⟨e,H,nx2,nt⟩ ⟨h0,h1,h5,h6,h7,h8,h13,h14,rfl,rfl⟩
   simp only [] at h0 h1 h5 h6 h7 h8 h13 h14
   refine hK10 _ ?_
   refine .region ?_
   refine .k 8 ?_ (by simp (disch:=first|exact zd|fail) [List.take_succ_cons,List.take_zero,if_pos,h0,h1,h5,h6,h7,h8,ho,ld_ip agT52]; rfl)
   refine .en (FE.sub64 nb240 (gt a i) (gt b i) c (da.gt (by omega) i).1 (db.gt (by omega) i).1 (db.gt (by omega) i).2 hc0 hc1) ?_ (ha:=by simp (disch:=first|exact zd|fail) [idf_Wd',if_pos,h0,h1,h5,h6,h7,h8,ho,ld_ip agT52])
   refine .e ?_ (by simp (disch:=first|exact zd|fail) [if_pos,h0,h1,h5,h6,h7,h8,ho,ld_ip agT52]; rfl)
   refine hK7 _ ?_
   refine .r ?_ (by simp (disch:=first|exact zd|fail) [h14]; rfl)
   have hga:=da.gt (by omega) i
   have hgb:=db.gt (by omega) i
   have hc' : 0 ≤ (if gt a i < gt b i + c then (1 : Int) else 0) ∧ (if gt a i < gt b i + c then (1 : Int) else 0) ≤ 1:=by split <;> omega
   refine ⟨a.length - (i + 1),by omega,i + 1,out.set i ((gt a i - gt b i - c) % 18446744073709551616),(if gt a i < gt b i + c then 1 else 0),rfl,by omega,by simp [ho],hd.set i (by omega) (by omega),hc'.1,hc'.2,?_,by simp [h0],by simp [h1],by simp [h5],by simp,by simp [h13],by simp (disch:=omega) [h14],by simp,rfl⟩
   rw [val_set_take (by omega),val_take_succ,val_take_succ,Int.pow_succ]
   have e : (gt a i - gt b i - c) % 18446744073709551616 = gt a i - gt b i - c + 18446744073709551616 * (if gt a i < gt b i + c then (1 : Int) else 0):=by split <;> omega
   rw [e]
   grind
  refine .q ?_ (by simp (disch:=first|exact zd|fail) [h1]; rfl)
  refine .c (fun h20=>?_) (fun h20=>?_)
  ·try simp only[dc]at h20
   have hib : i < b.length:=by omega
   refine .r ?_ (by simp (disch:=first|exact zd|fail) [if_pos,h1,ld_ip agT52]; rfl)
   refine J10 _ ?_
   exact ⟨by simp [h0],by simp [h1],by simp [h5],by simp [h6],by simp,by simp,by simp [h13],by simp [h14],rfl,rfl⟩
  ·try simp only[dc]at h20
   refine .skip ?_
   refine J10 _ ?_
   exact ⟨by simp [h0],by simp [h1],by simp [h5],by simp [h6],by simp,by simp [gt_ge (show b.length ≤ i by omega)],by simp [h13],by simp [h14],rfl,rfl⟩
 ·try simp only[dc]at h15
  obtain rfl : i = a.length:=by omega
  refine .exit ?_
  refine hK3 _ ?_
  refine .sq fun K12 hK12=>?_
  refine AWP.frz nx 1 (wd .u64 out) (by simp) ?_
  have hfz : fz nx (wd .u64 out) (.osl nx 0 a.length) = Wd .u64 out:=fz_wd (by simp [ho])
  refine .region ?_
  refine .kf 1 (trim_fc out (by omega)) hb234 ?_ (by simp (disch:=first|exact zd|fail) [List.take_succ_cons,List.take_zero,h5,hfz]; rfl) (ha:=by simp (disch:=first|exact zd|fail) [idf_Wd',h5,hfz])
  refine .e ?_ (by simp (disch:=first|exact zd|fail) [h5,hfz]; rfl)
  refine hK12 _ ?_
  refine .ret ?_
  have hv2 : val 18446744073709551616 out = val 18446744073709551616 a - val 18446744073709551616 b:=by
    rw [val_take_all (by omega),val_take_all (Nat.le_refl _),val_take_all hle] at hval
    have h1:=val_lt64 hd
    rw [ho] at h1
    have : c = 0 ∨ c = 1:=by omega
    rcases this with rfl | rfl
    · omega
    · exfalso; omega
  exact hK _ _ _ _ trivial ((Fin.mk (r:=Wd .u64 (trimW out)) (by simp [aRes,aResL,aRes1])).cast (by rw [trimW_digs (by omega) hd,hv2]))

theorem val_mag_add (a b : Int) : digs 18446744073709551616 (val 18446744073709551616 (mag a) + val 18446744073709551616 (mag b)).toNat = mag ((a.natAbs : Int) + b.natAbs):=by
  rw [mag_val,mag_val]; unfold mag; congr 1
theorem addWords_mag {a b : Int} (ha : (mag a).length ≤ 549755813888) (hb : (mag b).length ≤ 549755813888) : FC Tryz.prog 233 [Wd .u64 (mag a),Wd .u64 (mag b)] (Wd .u64 (mag ((a.natAbs : Int) + b.natAbs))):=by
  rw [← val_mag_add]; exact addWords_fc _ _ ha hb (mag_dig a) (mag_dig b)
theorem subWords_mag {a b : Int} (ha : (mag a).length ≤ 549755813888) (h : b.natAbs ≤ a.natAbs) : FC Tryz.prog 244 [Wd .u64 (mag a),Wd .u64 (mag b)] (Wd .u64 (mag ((a.natAbs : Int) - b.natAbs))):=by
  have e : digs 18446744073709551616 (val 18446744073709551616 (mag a) - val 18446744073709551616 (mag b)).toNat = mag ((a.natAbs : Int) - b.natAbs):=by
    rw [mag_val,mag_val]; unfold mag; congr 1; omega
  rw [← e]
  refine subWords_fc _ _ ha ?_ (mag_dig a) (mag_dig b) (by rw [mag_val,mag_val]; omega)
  rcases Nat.lt_or_ge (mag a).length (mag b).length with h1 | h1
  · have:=can_len_lt (B:=18446744073709551616) (by omega) (mag_dig a) (mag_dig b) (mag_can b) h1
    rw [mag_val,mag_val] at this; omega
  · exact h1

end Go.Proofs.YtjbbbkfdcegfmaaGreat

/- Walks: numbers with a sign. -/
namespace Go.Proofs.YtjbbbkfdcegfmaaGreat
open Go Go.RowKit
set_option linter.unusedSimpArgs false
set_option linter.unusedVariables false
set_option maxRecDepth 100000
attribute [local simp] szT2 byT2 agT2 unT2 zoT2 szT3 byT3 agT3 unT3 zoT3 szT4 byT4 agT4 unT4 zoT4 szT52 byT52 agT52 unT52 zoT52 szT188 byT188 agT188 elT188 unT188 zoT188 szT190 byT190 agT190 flT190 fdT190_0 fdT190_1 zoT190 srT188 ixT188 lnT188

section
attribute [local simp] idf_numI cells_numI numI_fold
theorem made_fc (b : Bool) (l : List Int) (hl : l.length ≤ 1099511627776) (hd : Dig 18446744073709551616 l) : FC Tryz.prog 183 [.bool b,Wd .u64 l] (numI (sg b (val 18446744073709551616 l))):=by
 refine .b Tryz.func183 15 (fun nx K hK=>?_)
 refine .q ?_
 refine .sq fun K2 hK2=>?_
 refine .region ?_
 refine .kf 1 (trim_fc l hl) hb234 ?_
 refine .e ?_
 refine hK2 _ ?_
 refine .sq fun K3 hK3=>?_
 cases b
 ·refine .r ?_
  refine hK3 _ ?_
  refine .ret ?_
  exact hK _ _ _ _ trivial ((Fin.m).cast (by rw [← numI_mk hd]; simp))
 ·refine .r ?_
  refine hK3 _ ?_
  refine .ret ?_
  exact hK _ _ _ _ trivial ((Fin.m).cast (by rw [← numI_mk hd]; simp))
theorem sign_fc (z : Int) : FC Tryz.prog 139 [numI z] (.int .i64 (if z < 0 then -1 else if z > 0 then 1 else 0)):=by
 refine .b Tryz.func139 11 (fun nx K hK=>?_)
 refine .q ?_
 refine .sq fun K2 hK2=>?_
 refine .block ?_
 refine .q ?_
 refine .c (fun h3=>?_) (fun h3=>?_)
 ·try simp only[dc]at h3
  have hz : z < 0:=by simpa using h3
  refine .q ?_
  refine .ret ?_
  exact hK _ _ _ _ trivial (Fin.mk (by simp [aRes,aResL,aRes1,hz]))
 ·try simp only[dc]at h3
  have hz : ¬ z < 0:=by simpa using h3
  refine .q ?_
  refine .c (fun h6=>?_) (fun h6=>?_)
  ·try simp only[dc]at h6
   have hz2 : z > 0:=by
     have h:=(mag_len0 (z:=z)); omega
   refine .q ?_
   refine .ret ?_
   exact hK _ _ _ _ trivial (Fin.mk (by simp [aRes,aResL,aRes1,hz,hz2]))
  ·try simp only[dc]at h6
   have hz2 : ¬ z > 0:=by
     have h:=(mag_len0 (z:=z)); omega
   refine .skip ?_
   refine hK2 _ ?_
   refine .q ?_
   refine .ret ?_
   exact hK _ _ _ _ trivial (Fin.mk (by simp [aRes,aResL,aRes1,hz,hz2]))
theorem minus_fc {k : Nat} {z : Int} (hz : Bg k z) (hk : k ≤ 1099511627776) : FC Tryz.prog 241 [numI z] (numI (-z)):=by
 refine .b Tryz.func241 9 (fun nx K hK=>?_)
 refine .q ?_
 refine .sq fun K2 hK2=>?_
 refine .region ?_
 refine .kf 5 (made_fc (!decide (z < 0)) (mag z) (Nat.le_trans hz.len hk) (mag_dig z)) hb183 ?_
 refine .e ?_
 refine hK2 _ ?_
 refine .ret ?_
 exact hK _ _ _ _ trivial ((Fin.mk (r:=numI (sg (!decide (z < 0)) (val 18446744073709551616 (mag z)))) (by simp [aRes,aResL,aRes1])).cast (by congr 1; rw [mag_val]; unfold sg; split <;> simp at * <;> omega))
theorem abs_fc (z : Int) : FC Tryz.prog 265 [numI z] (numI (z.natAbs : Int)):=by
 refine .b Tryz.func265 6 (fun nx K hK=>?_)
 refine .q ?_
 refine .q ?_
 refine .ret ?_
 exact hK _ _ _ _ trivial ((Fin.mk (r:=.agg [.bool false,Wd .u64 (mag z)]) (by simp [aRes,aResL,aRes1])).cast (by unfold numI; rw [mag_abs]; simp))
theorem plus_fc {j k : Nat} {a b : Int} (ha : Bg j a) (hb : Bg k b) (hj : j ≤ 274877906944) (hk : k ≤ 274877906944) : FC Tryz.prog 198 [numI a,numI b] (numI (a + b)):=by
 have la : (mag a).length ≤ 274877906944:=Nat.le_trans ha.len hj
 have lb : (mag b).length ≤ 274877906944:=Nat.le_trans hb.len hk
 refine .b Tryz.func198 40 (fun nx K hK=>?_)
 refine .q ?_
 refine .sq fun K2 hK2=>?_
 refine .q ?_
 refine .c (fun h9=>?_) (fun h9=>?_)
 ·try simp only[dc]at h9
  have hs : (a < 0 ↔ b < 0):=by simpa using h9
  refine .sq fun K4 hK4=>?_
  refine .d 8 ?_
  refine .k 6 (fun fs5 hfs5=>?_)
  refine .f (addWords_mag (a:=a) (b:=b) (by omega) (by omega)) hb233 ?_
  refine .f (made_fc (decide (a < 0)) (mag ((a.natAbs : Int) + b.natAbs)) (Nat.le_trans (ha.abs.add hb.abs).len (by omega)) (mag_dig _)) hb183 ?_
  refine .r 8 (by simp only[ln,hfs5];omega) ?_
  refine hK4 _ ?_
  refine .ret ?_
  exact hK _ _ _ _ trivial ((Fin.mk (r:=numI (sg (decide (a < 0)) (val 18446744073709551616 (mag ((a.natAbs : Int) + b.natAbs))))) (by simp [aRes,aResL,aRes1])).cast (by congr 1; rw [mag_val]; unfold sg; split <;> simp at * <;> omega))
 ·try simp only[dc]at h9
  have hs : ¬ (a < 0 ↔ b < 0):=by simpa using h9
  refine .skip ?_
  refine hK2 _ ?_
  refine .sq fun K6 hK6=>?_
  refine .sq fun K7 hK7=>?_
  refine .region ?_
  refine .kf 4 (cmpWords_fc (mag a) (mag b) (by omega) (by omega)) hb235 ?_
  refine .e ?_
  refine hK7 _ ?_
  refine .c (fun h23=>?_) (fun h23=>?_)
  ·try simp only[dc]at h23
   have hc : b.natAbs ≤ a.natAbs:=by
     have:=cmpI_mag a b; omega
   refine .sq fun K8 hK8=>?_
   refine .d 8 ?_
   refine .k 6 (fun fs9 hfs9=>?_)
   refine .f (subWords_mag (a:=a) (b:=b) (by omega) hc) hb244 ?_
   refine .f (made_fc (decide (a < 0)) (mag ((a.natAbs : Int) - b.natAbs)) (Nat.le_trans (ha.abs.sub hb.abs).len (by omega)) (mag_dig _)) hb183 ?_
   refine .r 8 (by simp only[ln,hfs9];omega) ?_
   refine hK8 _ ?_
   refine .ret ?_
   exact hK _ _ _ _ trivial ((Fin.mk (r:=numI (sg (decide (a < 0)) (val 18446744073709551616 (mag ((a.natAbs : Int) - b.natAbs))))) (by simp [aRes,aResL,aRes1])).cast (by congr 1; rw [mag_val]; unfold sg; split <;> simp at * <;> omega))
  ·try simp only[dc]at h23
   have hc : a.natAbs ≤ b.natAbs:=by
     have:=cmpI_mag a b; omega
   refine .skip ?_
   refine hK6 _ ?_
   refine .sq fun K10 hK10=>?_
   refine .d 8 ?_
   refine .k 6 (fun fs11 hfs11=>?_)
   refine .f (subWords_mag (a:=b) (b:=a) (by omega) hc) hb244 ?_
   refine .f (made_fc (decide (b < 0)) (mag ((b.natAbs : Int) - a.natAbs)) (Nat.le_trans (hb.abs.sub ha.abs).len (by omega)) (mag_dig _)) hb183 ?_
   refine .r 8 (by simp only[ln,hfs11];omega) ?_
   refine hK10 _ ?_
   refine .ret ?_
   exact hK _ _ _ _ trivial ((Fin.mk (r:=numI (sg (decide (b < 0)) (val 18446744073709551616 (mag ((b.natAbs : Int) - a.natAbs))))) (by simp [aRes,aResL,aRes1])).cast (by congr 1; rw [mag_val]; unfold sg; split <;> simp at * <;> omega))
theorem less_fc {j k : Nat} {a b : Int} (ha : Bg j a) (hb : Bg k b) (hj : j ≤ 274877906944) (hk : k ≤ 274877906944) : FC Tryz.prog 182 [numI a,numI b] (numI (a - b)):=by
 refine .b Tryz.func182 9 (fun nx K hK=>?_)
 refine .q ?_
 refine .sq fun K2 hK2=>?_
 refine .d 4 ?_
 refine .k 2 (fun fs3 hfs3=>?_)
 refine .f (minus_fc hb (by omega)) hb241 ?_
 refine .f (plus_fc ha hb.neg hj hk) hb198 ?_
 refine .r 4 (by simp only[ln,hfs3];omega) ?_
 refine hK2 _ ?_
 refine .ret ?_
 exact hK _ _ _ _ trivial ((Fin.mk (r:=numI (a + -b)) (by simp [aRes,aResL,aRes1])).cast rfl)
theorem cmp_fc {j k : Nat} {a b : Int} (ha : Bg j a) (hb : Bg k b) (hj : j ≤ 274877906943) (hk : k ≤ 274877906943) : FC Tryz.prog 142 [numI a,numI b] (.int .i64 (if a < b then -1 else if a > b then 1 else 0)):=by
 refine .b Tryz.func142 9 (fun nx K hK=>?_)
 refine .q ?_
 refine .sq fun K2 hK2=>?_
 refine .region ?_
 refine .kf 2 (less_fc ha hb (by omega) (by omega)) hb182 ?_
 refine .f (sign_fc (a - b)) hb139 ?_
 refine .e ?_
 refine hK2 _ ?_
 refine .ret ?_
 exact hK _ _ _ _ trivial ((Fin.m).cast (by congr 1; split <;> split <;> simp at * <;> first | rfl | omega | (split <;> first | rfl | omega)))
theorem whole_fc (n : Int) (h1 : -9223372036854775808 ≤ n) (h2 : n ≤ 9223372036854775807) : FC Tryz.prog 143 [.int .i64 n] (numI n):=by
 refine .b Tryz.func143 14 (fun nx K hK=>?_)
 refine .q ?_
 refine .sq fun K2 hK2=>?_
 refine .q ?_
 refine .c (fun h4=>?_) (fun h4=>?_)
 ·try simp only[dc]at h4
  have hw : IntKind.u64.wrap n = n + 18446744073709551616:=by rw [wrap_u64m]; omega
  refine .sq fun K4 hK4=>?_
  refine .region ?_
  refine .k 4 ?_ (by simp (disch:=first|exact zd|fail) [List.take_succ_cons,List.take_zero,hw,wrap_u64m]; rfl)
  refine AOPS.frz1 8 (nx + 1) 1 (wd .u64 [-n]) (Wd .u64 [-n]) (by simp; rw [show -(n + 18446744073709551616) % 18446744073709551616 = -n by omega]) (by simp; rfl) ?_
  refine .f (made_fc true [-n] (by simp) (Dig.cons (by omega) (by omega) (Dig.nil _))) hb183 ?_ (ha:=by simp (disch:=first|exact zd|fail) [idf_Wd',hw,wrap_u64m])
  refine .e ?_ (by simp (disch:=first|exact zd|fail) [hw,wrap_u64m]; rfl)
  refine hK4 _ ?_
  refine .ret ?_
  exact hK _ _ _ _ trivial ((Fin.mk (r:=numI (sg true (val 18446744073709551616 [-n]))) (by simp [aRes,aResL,aRes1])).cast (by congr 1; simp [sg,val]))
 ·try simp only[dc]at h4
  refine .skip ?_
  refine hK2 _ ?_
  refine .sq fun K5 hK5=>?_
  refine .region ?_
  refine .k 3 ?_
  refine AOPS.frz1 12 (nx + 1) 1 (wd .u64 [n]) (Wd .u64 [n]) (by simp) (by simp; rfl) ?_
  refine .f (made_fc false [n] (by simp) (Dig.cons (by omega) (by omega) (Dig.nil _))) hb183 ?_
  refine .e ?_
  refine hK5 _ ?_
  refine .ret ?_
  exact hK _ _ _ _ trivial ((Fin.mk (r:=numI (sg false (val 18446744073709551616 [n]))) (by simp [aRes,aResL,aRes1])).cast (by congr 1; simp [sg,val]))
theorem size_fc {k : Nat} {z : Int} (hz : Bg k z) (hk : k ≤ 1099511627776) : FC Tryz.prog 140 [numI z] (.int .i64 (bitLen z.natAbs : Int)):=by
 have lz : (mag z).length ≤ 1099511627776:=Nat.le_trans hz.len hk
 refine .b Tryz.func140 19 (fun nx K hK=>?_)
 refine .q ?_
 refine .q ?_
 refine .sq fun K3 hK3=>?_
 refine .q ?_
 refine .c (fun h8=>?_) (fun h8=>?_)
 ·try simp only[dc]at h8
  have h0 : z = 0:=by simp at h8; exact mag_nil.mp h8
  refine .q ?_
  refine .ret ?_
  exact hK _ _ _ _ trivial (Fin.mk (by simp [aRes,aResL,aRes1,h0,bitLen]))
 ·try simp only[dc]at h8
  have h0 : 0 < (mag z).length:=by simp at h8; exact List.length_pos_iff.mpr h8
  have hg:=(mag_dig z).gt (by omega) ((mag z).length - 1)
  obtain ⟨q,hq⟩ : ∃ q : Nat,gt (mag z) ((mag z).length - 1) = (q : Int):=⟨_,(Int.toNat_of_nonneg hg.1).symm⟩
  have hs:=bitLen_top z q h0 hq
  have hqb : bitLen q ≤ 64:=bitLen_le64 (by omega)
  have he : (((mag z).length : Int) - 1).toNat = (mag z).length - 1:=by omega
  refine .skip ?_
  refine hK3 _ ?_
  refine .sq fun K6 hK6=>?_
  refine .region ?_
  refine .kf 8 (lz64_fc q (by omega)) hb179 ?_ (by simp (disch:=first|exact zd|fail) [List.take_succ_cons,List.take_zero,if_pos,he,hq,ld_ip agT52]; rfl) (ha:=by simp (disch:=first|exact zd|fail) [idf_Wd',if_pos,he,hq,ld_ip agT52])
  refine .e ?_ (by simp (disch:=first|exact zd|fail) [if_pos,he,hq,ld_ip agT52]; rfl)
  refine hK6 _ ?_
  refine .ret ?_
  exact hK _ _ _ _ trivial ((Fin.mk (by simp (disch:=omega) [aRes,aResL,aRes1]; rfl)).cast (by congr 1; omega))
end

end Go.Proofs.YtjbbbkfdcegfmaaGreat

/- Walks: products. -/
namespace Go.Proofs.YtjbbbkfdcegfmaaGreat
open Go Go.RowKit
set_option linter.unusedSimpArgs false
set_option linter.unusedVariables false
set_option maxRecDepth 100000
attribute [local simp] szT3 byT3 agT3 unT3 zoT3 szT4 byT4 agT4 unT4 zoT4 szT52 byT52 agT52 unT52 zoT52 szT188 byT188 agT188 elT188 unT188 zoT188 szT190 byT190 agT190 flT190 fdT190_0 fdT190_1 zoT190 srT188 ixT188 lnT188

theorem sg_mul (a b : Int) : numI (sg (!(decide (a < 0) == decide (b < 0))) ((a.natAbs : Int) * (b.natAbs : Int))) = numI (a * b):=by
  congr 1
  rw [← Int.natCast_mul,← Int.natAbs_mul]
  by_cases ha : a < 0 <;> by_cases hb : b < 0
  · have:=Int.mul_nonneg (show 0 ≤ -a by omega) (show 0 ≤ -b by omega)
    rw [Int.neg_mul_neg] at this
    simp [sg,ha,hb]; omega
  · have:=Int.mul_nonneg (show 0 ≤ -a by omega) (show 0 ≤ b by omega)
    rw [Int.neg_mul] at this
    simp [sg,ha,hb]; omega
  · have:=Int.mul_nonneg (show 0 ≤ a by omega) (show 0 ≤ -b by omega)
    rw [Int.mul_neg] at this
    simp [sg,ha,hb]; omega
  · have:=Int.mul_nonneg (show 0 ≤ a by omega) (show 0 ≤ b by omega)
    simp [sg,ha,hb]; omega
/-- The variables of 'by'. -/
def heapBy (nx : Nat) (a b : Int) : Heap:=hupd (hupd (hupd (fun _=>none) nx (some (2,[[.bool (decide (a < 0)),Wd .u64 (mag a)]]))) (nx + 1) (some (2,[[.bool (decide (b < 0)),Wd .u64 (mag b)]]))) (nx + 1 + 1) (some (2,[[.bool false,.nsl]]))
theorem mul_step {x y o c : Int} (hx : 0 ≤ x ∧ x < 18446744073709551616) (hy : 0 ≤ y ∧ y < 18446744073709551616) (ho : 0 ≤ o ∧ o < 18446744073709551616) (hc : 0 ≤ c ∧ c < 18446744073709551616) :
    0 ≤ x * y / 18446744073709551616 + (x * y % 18446744073709551616 + c) / 18446744073709551616 ∧ x * y / 18446744073709551616 + (x * y % 18446744073709551616 + c) / 18446744073709551616 < 18446744073709551616 ∧
    0 ≤ x * y / 18446744073709551616 + (x * y % 18446744073709551616 + c) / 18446744073709551616 + (o + (x * y % 18446744073709551616 + c) % 18446744073709551616) / 18446744073709551616 ∧ x * y / 18446744073709551616 + (x * y % 18446744073709551616 + c) / 18446744073709551616 + (o + (x * y % 18446744073709551616 + c) % 18446744073709551616) / 18446744073709551616 < 18446744073709551616 ∧
    (o + (x * y + c)) % 18446744073709551616 + 18446744073709551616 * (x * y / 18446744073709551616 + (x * y % 18446744073709551616 + c) / 18446744073709551616 + (o + (x * y % 18446744073709551616 + c) % 18446744073709551616) / 18446744073709551616) = x * y + o + c:=by
  have h0 : 0 ≤ x * y:=Int.mul_nonneg hx.1 hy.1
  have h1 : x * y ≤ 18446744073709551615 * 18446744073709551615:=Int.mul_le_mul (by omega) (by omega) hy.1 (by omega)
  generalize x * y = p at *
  omega

section
attribute [local simp] idf_numI cells_numI numI_fold
set_option maxHeartbeats 1000000 in
theorem by_fc {j k : Nat} {a b : Int} (ha : Bg j a) (hb : Bg k b) (hj : j ≤ 274877906944) (hk : k ≤ 274877906944) : FC Tryz.prog 197 [numI a,numI b] (numI (a * b)):=by
 have la : (mag a).length ≤ 274877906944:=Nat.le_trans ha.len hj
 have lb : (mag b).length ≤ 274877906944:=Nat.le_trans hb.len hk
 have da:=mag_dig a
 have db:=mag_dig b
 refine .b Tryz.func197 100 (fun nx K hK=>?_)
 refine .q ?_
 refine .sq fun K2 hK2=>?_
 refine .sq fun K3 hK3=>?_
 by_cases ha0 : mag a = []
 ·refine .r ?_ (by simp (disch:=first|exact zd|fail) [ha0]; rfl)
  refine hK3 _ ?_
  refine .c (fun h23=>?_) (fun h23=>?_)
  ·try simp only[dc]at h23
   refine .q ?_
   refine .ret ?_
   exact hK _ _ _ _ trivial ((Fin.mk (r:=.agg [.bool false,.nsl]) (by simp [aRes,aResL,aRes1])).weak (by rw [mag_nil.mp ha0,Int.zero_mul]; exact fun _ _ _ _=>num0_weak))
  ·simp at h23
 ·have ea : (((mag a).length : Int) == 0) = false:=beq_eq_false_iff_ne.mpr (by have:=List.length_pos_iff.mpr ha0; omega)
  by_cases hb0 : mag b = []
  ·refine .r ?_ (by simp (disch:=first|exact zd|fail) [ea,hb0]; rfl)
   refine hK3 _ ?_
   refine .c (fun h23=>?_) (fun h23=>?_)
   ·try simp only[dc]at h23
    refine .q ?_
    refine .ret ?_
    exact hK _ _ _ _ trivial ((Fin.mk (r:=.agg [.bool false,.nsl]) (by simp [aRes,aResL,aRes1])).weak (by rw [mag_nil.mp hb0,Int.mul_zero]; exact fun _ _ _ _=>num0_weak))
   ·simp at h23
  ·have eb : (((mag b).length : Int) == 0) = false:=beq_eq_false_iff_ne.mpr (by have:=List.length_pos_iff.mpr hb0; omega)
   refine .r ?_ (by simp (disch:=first|exact zd|fail) [ea,eb]; rfl)
   refine hK3 _ ?_
   refine .c (fun h23=>?_) (fun h23=>?_)
   ·simp at h23
   ·try simp only[dc]at h23
    refine .skip ?_
    refine hK2 _ ?_
    refine .q ?_ (by simp (disch:=first|exact zd|fail) [if_pos]; rfl)
    refine .sq fun K7 hK7=>?_
    refine .q ?_
    refine .block ?_
    refine .loop (fun n s=>∃ i out,n = (mag a).length - i ∧ i ≤ (mag a).length ∧ out.length = (mag a).length + (mag b).length ∧ Dig 18446744073709551616 out ∧ val 18446744073709551616 out = val 18446744073709551616 ((mag a).take i) * val 18446744073709551616 (mag b) ∧ (∀ q,i + (mag b).length ≤ q → gt out q = 0) ∧ s.env 2 = .ptr nx 0 0 ∧ s.env 3 = .ptr (nx + 1) 0 0 ∧ s.env 4 = .ptr (nx + 1 + 1) 0 0 ∧ s.env 5 = .osl (nx + 1 + 1 + 1) 0 ((mag a).length + (mag b).length) ∧ s.env 34 = Wd .u64 (mag a) ∧ s.env 35 = .int .i64 (mag a).length ∧ s.env 36 = .int .i64 (i : Int) ∧ s.heap = hupd (heapBy nx a b) (nx + 1 + 1 + 1) (some (1,wd .u64 out)) ∧ s.nt = 100) ((mag a).length) (⟨0,List.replicate ((mag a).length + (mag b).length) 0,by omega,by omega,by simp,Dig.replicate _ (by omega) (by omega),by simp [val,val_replicate],by intro q _; simp [gt,List.getElem?_replicate]; split <;> rfl,by simp,by simp,by simp,by simp; omega,by simp,by simp,by simp,by simp [heapBy]; rfl,rfl⟩) ?_
    rintro n ⟨e,H,nx2,nt⟩ ⟨i,out,rfl,hi,ho,hd,hval,hz,h2,h3,h4,h5,h34,h35,h36,rfl,rfl⟩
    simp only [] at h2 h3 h4 h5 h34 h35 h36
    refine .q ?_ (by simp (disch:=first|exact zd|fail) [h35,h36]; rfl)
    refine .sq fun K10 hK10=>?_
    refine .c (fun h37=>?_) (fun h37=>?_)
    ·try simp only[dc]at h37
     have hi' : i < (mag a).length:=by omega
     refine .skip ?_
     refine hK10 _ ?_
     refine .sq fun K11 hK11=>?_
     refine .block ?_
     refine .q ?_ (by simp (disch:=first|exact zd|fail) [if_pos,h34,h36,ld_ip agT52]; rfl)
     refine .q ?_
     refine .sq fun K14 hK14=>?_
     refine .q ?_ (by simp (disch:=first|exact zd|fail) [h3,heapBy]; rfl)
     refine .block ?_
     refine .loop (fun n s=>∃ q out2 c,n = (mag b).length - q ∧ q ≤ (mag b).length ∧ out2.length = (mag a).length + (mag b).length ∧ Dig 18446744073709551616 out2 ∧ 0 ≤ c ∧ c < 18446744073709551616 ∧ val 18446744073709551616 out2 + c * (18446744073709551616 : Int) ^ (i + q) = val 18446744073709551616 ((mag a).take i) * val 18446744073709551616 (mag b) + (18446744073709551616 : Int) ^ i * gt (mag a) i * val 18446744073709551616 ((mag b).take q) ∧ (∀ j,i + (mag b).length ≤ j → gt out2 j = 0) ∧ s.env 2 = .ptr nx 0 0 ∧ s.env 3 = .ptr (nx + 1) 0 0 ∧ s.env 4 = .ptr (nx + 1 + 1) 0 0 ∧ s.env 5 = .osl (nx + 1 + 1 + 1) 0 ((mag a).length + (mag b).length) ∧ s.env 6 = .int .i64 (i : Int) ∧ s.env 7 = .int .u64 (gt (mag a) i) ∧ s.env 8 = .int .u64 c ∧ s.env 34 = Wd .u64 (mag a) ∧ s.env 35 = .int .i64 (mag a).length ∧ s.env 36 = .int .i64 (i : Int) ∧ s.env 42 = Wd .u64 (mag b) ∧ s.env 43 = .int .i64 (mag b).length ∧ s.env 44 = .int .i64 (q : Int) ∧ s.heap = hupd (heapBy nx a b) (nx + 1 + 1 + 1) (some (1,wd .u64 out2)) ∧ s.nt = 100) ((mag b).length) (⟨0,out,0,by omega,by omega,ho,hd,by omega,by omega,by simp [val,hval],hz,by simp [h2],by simp [h3],by simp [h4],by simp [h5],by simp,by simp,by simp,by simp [h34],by simp [h35],by simp [h36],by simp,by simp,by simp,rfl,rfl⟩) ?_
     clear h2 h3 h4 h5 h34 h35 h36
     rintro n ⟨e,H,nx2,nt⟩ ⟨q,out2,c,rfl,hq,ho2,hd2,hc0,hc1,hval2,hz2,h2,h3,h4,h5,h6,h7,h8,h34,h35,h36,h42,h43,h44,rfl,rfl⟩
     simp only [] at h2 h3 h4 h5 h6 h7 h8 h34 h35 h36 h42 h43 h44
     refine .q ?_ (by simp (disch:=first|exact zd|fail) [h43,h44]; rfl)
     refine .sq fun K17 hK17=>?_
     refine .c (fun h45=>?_) (fun h45=>?_)
     ·try simp only[dc]at h45
      have hq' : q < (mag b).length:=by omega
      have hgx:=da.gt (by omega) i
      have hgy:=db.gt (by omega) q
      have hgo:=hd2.gt (by omega) (i + q)
      have hms:=mul_step hgx hgy hgo ⟨hc0,hc1⟩
      have hpr0 : 0 ≤ gt (mag a) i * gt (mag b) q:=Int.mul_nonneg hgx.1 hgy.1
      have hiq : ((i : Int) + (q : Int)).toNat = i + q:=by omega
      refine .skip ?_
      refine hK17 _ ?_
      refine .sq fun K18 hK18=>?_
      refine .block ?_
      refine .q ?_ (by simp (disch:=first|exact zd|fail) [if_pos,h42,h44,ld_ip agT52]; rfl)
      refine .sq fun K20 hK20=>?_
      refine .region ?_
      refine .kf 2 (mul64_fc (gt (mag a) i) (gt (mag b) q) hgx.1 hgx.2 hgy.1 hgy.2) hb238 ?_ (by simp (disch:=first|exact zd|fail) [List.take_succ_cons,List.take_zero,h7]; rfl) (ha:=by simp (disch:=first|exact zd|fail) [idf_Wd',h7])
      refine .e ?_ (by simp (disch:=first|exact zd|fail) [h7]; rfl)
      refine hK20 _ ?_
      refine .q ?_
      refine .sq fun K22 hK22=>?_
      refine .region ?_
      refine .k 2 ?_ (by simp (disch:=first|exact zd|fail) [List.take_succ_cons,List.take_zero,h8]; rfl)
      refine .en (FE.add64 nb239 (gt (mag a) i * gt (mag b) q % 18446744073709551616) c 0 (by omega) hc0 (by omega) (by omega)) ?_ (ha:=by simp (disch:=first|exact zd|fail) [idf_Wd',h8])
      refine .e ?_ (by simp (disch:=first|exact zd|fail) [h8]; rfl)
      refine hK22 _ ?_
      refine .q ?_
      refine .sq fun K24 hK24=>?_
      refine .region ?_
      refine .k 11 ?_ (by simp (disch:=first|exact zd|fail) [List.take_succ_cons,List.take_zero,if_pos,h5,h6,hiq,ho2,ld_ip agT52]; rfl)
      refine .en (FE.add64 nb239 (gt out2 (i + q)) ((gt (mag a) i * gt (mag b) q % 18446744073709551616 + c) % 18446744073709551616) 0 hgo.1 (by omega) (by omega) (by omega)) ?_ (ha:=by simp (disch:=first|exact zd|fail) [idf_Wd',if_pos,h5,h6,hiq,ho2,ld_ip agT52])
      refine .e ?_ (by simp (disch:=first|exact zd|fail) [if_pos,h5,h6,hiq,ho2,ld_ip agT52]; rfl)
      refine hK24 _ ?_
      refine .r ?_
      refine hK18 _ ?_
      refine .r ?_ (by simp (disch:=first|exact zd|fail) [h44]; rfl)
      have hp1 : (18446744073709551616 : Int) ^ (i + (q + 1)) = (18446744073709551616 : Int) ^ i * (18446744073709551616 : Int) ^ q * 18446744073709551616:=by rw [← Nat.add_assoc,Int.pow_succ,Int.pow_add]
      have hp2 : (18446744073709551616 : Int) ^ (i + q) = (18446744073709551616 : Int) ^ i * (18446744073709551616 : Int) ^ q:=Int.pow_add _ _ _
      refine ⟨(mag b).length - (q + 1),by omega,q + 1,out2.set (i + q) ((gt out2 (i + q) + (gt (mag a) i * gt (mag b) q + c)) % 18446744073709551616),_,rfl,by omega,by simp [ho2],hd2.set _ (Int.emod_nonneg _ (by omega)) (Int.emod_lt_of_pos _ (by omega)),hms.2.2.1,hms.2.2.2.1,?_,fun j hj=>by rw [gt_set_ne (by omega)]; exact hz2 j (by omega),by simp [h2],by simp [h3],by simp [h4],by simp [h5],by simp [h6],by simp [h7],by simp,by simp [h34],by simp [h35],by simp [h36],by simp [h42],by simp [h43],by simp (disch:=omega) [h44],by simp,rfl⟩
      rw [val_setB (by omega),val_take64,hp1]
      rw [hp2] at hval2 ⊢
      have:=hms.2.2.2.2
      grind
     ·try simp only[dc]at h45
      obtain rfl : q = (mag b).length:=by omega
      refine .exit ?_
      refine hK14 _ ?_
      have hil : ((i : Int) + ((mag b).length : Int)).toNat = i + (mag b).length:=by omega
      refine .r ?_ (by simp (disch:=first|exact zd|fail) [if_pos,h3,h5,h6,h8,heapBy,ho2,hil]; rfl)
      refine hK11 _ ?_
      refine .r ?_ (by simp (disch:=first|exact zd|fail) [h36]; rfl)
      have hpw : (18446744073709551616 : Int) ^ (i + (mag b).length) = (18446744073709551616 : Int) ^ i * (18446744073709551616 : Int) ^ (mag b).length:=Int.pow_add _ _ _
      refine ⟨(mag a).length - (i + 1),by omega,i + 1,out2.set (i + (mag b).length) c,rfl,by omega,by simp [ho2],hd2.set _ hc0 hc1,?_,fun j hj=>by rw [gt_set_ne (by omega)]; exact hz2 j (by omega),by simp [h2],by simp [h3],by simp [h4],by simp [h5],by simp [h34],by simp [h35],by simp (disch:=omega) [h36],by simp [heapBy],rfl⟩
      rw [val_take_all (Nat.le_refl _)] at hval2
      rw [val_setB (by omega),hz2 _ (Nat.le_refl _),val_take64]
      grind
    ·try simp only[dc]at h37
     obtain rfl : i = (mag a).length:=by omega
     refine .exit ?_
     refine hK7 _ ?_
     refine .sq fun K25 hK25=>?_
     refine .region ?_
     refine .k 6 ?_ (by simp (disch:=first|exact zd|fail) [List.take_succ_cons,List.take_zero,h2,h3,h4,h5,heapBy]; rfl)
     refine AOPS.frz1 98 (nx + 1 + 1 + 1) 1 (wd .u64 out) (Wd .u64 out) (by simp) (by simp; first | exact fz_wd (by omega) | exact isl_take_wd (by omega)) ?_
     refine .f (made_fc (!(decide (a < 0) == decide (b < 0))) out (by omega) hd) hb183 ?_ (ha:=by simp (disch:=first|exact zd|fail) [idf_Wd',h2,h3,h4,h5,heapBy])
     refine .e ?_ (by simp (disch:=first|exact zd|fail) [h2,h3,h4,h5,heapBy]; rfl)
     refine hK25 _ ?_
     refine .ret ?_
     exact hK _ _ _ _ trivial ((Fin.mk (r:=numI (sg (!(decide (a < 0) == decide (b < 0))) (val 18446744073709551616 out))) (by simp [aRes,aResL,aRes1,h4])).cast (by rw [hval,val_take_all (Nat.le_refl _),mag_val,mag_val,sg_mul]))
end

end Go.Proofs.YtjbbbkfdcegfmaaGreat

/- Walks: numbers of 256 bits made numbers of any size. -/
namespace Go.Proofs.YtjbbbkfdcegfmaaGreat
open Go Go.RowKit
set_option linter.unusedSimpArgs false
set_option linter.unusedVariables false
set_option maxRecDepth 100000
attribute [local simp] szT3 byT3 agT3 unT3 zoT3 szT4 byT4 agT4 unT4 zoT4 szT52 byT52 agT52 unT52 zoT52 szT60 byT60 agT60 flT60 fdT60_0 fdT60_1 fdT60_2 fdT60_3 zoT60 szT188 byT188 agT188 elT188 unT188 zoT188 szT190 byT190 agT190 flT190 fdT190_0 fdT190_1 zoT190 srT188 ixT188 lnT188

theorem digs_len5 {l : List Int} (h : Dig 18446744073709551616 l) : (digs 18446744073709551616 (val 18446744073709551616 (trimW l) + val 18446744073709551616 [1]).toNat).length ≤ l.length + 1:=by
  refine digs_length_le (by omega) _ _ ?_
  have h1:=val_lt h
  have h2:=val_nonneg h
  rw [trimW_val]
  have e : ((18446744073709551616 : Nat) : Int) ^ l.length = ((18446744073709551616 ^ l.length : Nat) : Int):=by rw [Int.natCast_pow]
  rw [e] at h1
  rw [Nat.pow_succ]
  simp only [val]
  omega

section
attribute [local simp] idf_numI cells_numI numI_fold
set_option maxHeartbeats 1000000 in
theorem wideNum_fc (w3 w2 w1 w0 : Int) (h3 : U64 w3) (h2 : U64 w2) (h1 : U64 w1) (h0 : U64 w0) : FC Tryz.prog 178 [wdI w3 w2 w1 w0] (numI (sval w3 w2 w1 w0)):=by
 refine .b Tryz.func178 39 (fun nx K hK=>?_) (hi:=by simp [idfL,idf,wdI])
 unfold wdI
 have hd4:=dig4 h0 h1 h2 h3
 unfold U64 at h0 h1 h2 h3
 refine .q ?_
 refine .q ?_
 refine .sq fun K3 hK3=>?_
 refine .q ?_ (by simp (disch:=first|exact zd|fail) [IntKind.bits,Int.fdiv_eq_ediv_of_nonneg]; rfl)
 refine .c (fun h17=>?_) (fun h17=>?_)
 ·try simp only[dc]at h17
  have hs : w3 < 9223372036854775808:=by simp at h17; omega
  refine .sq fun K5 hK5=>?_
  refine .region ?_
  refine .k 1 ?_
  refine AOPS.frz1 18 (nx + 1 + 1) 1 (wd .u64 [w0,w1,w2,w3]) (Wd .u64 [w0,w1,w2,w3]) (by simp) (by simp; first | exact fz_wd rfl | exact isl_take_wd (by simp)) ?_
  refine .f (made_fc false [w0,w1,w2,w3] (by simp) hd4) hb183 ?_
  refine .e ?_
  refine hK5 _ ?_
  refine .ret ?_
  exact hK _ _ _ _ trivial ((Fin.mk (r:=numI (sg false (val 18446744073709551616 [w0,w1,w2,w3]))) (by simp [aRes,aResL,aRes1])).cast (by rw [sg_false,val4,sval,if_pos hs]))
 ·try simp only[dc]at h17
  have hs : ¬ w3 < 9223372036854775808:=by simp at h17; omega
  refine .skip ?_
  refine hK3 _ ?_
  refine .sq fun K6 hK6=>?_
  refine .q ?_
  refine .block ?_
  refine .loop (fun n s=>∃ i out,n = 4 - i ∧ i ≤ 4 ∧ out.length = 4 ∧ (∀ j,j < 4 → gt out j = if j < i then 18446744073709551615 - gt [w0,w1,w2,w3] j else gt [w0,w1,w2,w3] j) ∧ s.env 2 = .ptr (nx + 1) 0 0 ∧ s.env 3 = .osl (nx + 1 + 1) 0 4 ∧ s.env 21 = .int .i64 4 ∧ s.env 22 = .int .i64 (i : Int) ∧ s.heap = hupd (hupd (hupd (fun _=>none) nx (some (4,[[.int .u64 w3,.int .u64 w2,.int .u64 w1,.int .u64 w0]]))) (nx + 1) (some (2,[[.bool false,.nsl]]))) (nx + 1 + 1) (some (1,wd .u64 out)) ∧ s.nx = nx + 1 + 1 + 1 ∧ s.nt = 39) (4) (⟨0,[w0,w1,w2,w3],by omega,by omega,rfl,by intro j hj; simp,by simp,by simp,by simp,by simp,by simp,rfl,rfl⟩) ?_
  rintro n ⟨e,H,nx2,nt⟩ ⟨i,out,rfl,hi,ho,hg,h2',h3',h21,h22,rfl,rfl,rfl⟩
  simp only [] at h2' h3' h21 h22
  refine .q ?_ (by simp (disch:=first|exact zd|fail) [h21,h22]; rfl)
  refine .sq fun K9 hK9=>?_
  refine .c (fun h23=>?_) (fun h23=>?_)
  ·try simp only[dc]at h23
   have hi' : i < 4:=by omega
   have hgi : 0 ≤ gt out i ∧ gt out i < 18446744073709551616:=by
     have:=hg i hi'
     rw [if_neg (Nat.lt_irrefl i)] at this
     rw [this]; exact hd4.gt (by omega) i
   have hx:=not_u64 hgi.1 hgi.2
   refine .skip ?_
   refine hK9 _ ?_
   refine .sq fun K10 hK10=>?_
   refine .block ?_
   refine .q ?_ (by simp (disch:=first|exact zd|fail) [h22]; rfl)
   refine .r ?_ (by simp (disch:=first|exact zd|fail) [if_pos,h3',ho,hx,ld_ip agT52]; rfl)
   refine hK10 _ ?_
   refine .r ?_ (by simp (disch:=first|exact zd|fail) [h22]; rfl)
   refine ⟨4 - (i + 1),by omega,i + 1,out.set i (18446744073709551615 - gt out i),rfl,by omega,by simp [ho],?_,by simp [h2'],by simp [h3'],by simp [h21],by simp (disch:=omega) [h22],by simp,rfl,rfl⟩
   intro j hj
   by_cases hji : j = i
   · subst hji; rw [gt_set (by omega),hg _ hj]; simp
   · rw [gt_set_ne (Ne.symm hji),hg _ hj]
     by_cases hlt : j < i
     · rw [if_pos hlt,if_pos (by omega)]
     · rw [if_neg hlt,if_neg (by omega)]
  ·try simp only[dc]at h23
   obtain rfl : i = 4:=by omega
   obtain rfl : out = [18446744073709551615 - w0,18446744073709551615 - w1,18446744073709551615 - w2,18446744073709551615 - w3]:=by
     rw [list4 ho,hg 0 (by omega),hg 1 (by omega),hg 2 (by omega),hg 3 (by omega)]; rfl
   refine .exit ?_
   refine hK6 _ ?_
   refine .sq fun K12 hK12=>?_
   have hdo : Dig 18446744073709551616 [18446744073709551615 - w0,18446744073709551615 - w1,18446744073709551615 - w2,18446744073709551615 - w3]:=dig4 ⟨by omega,by omega⟩ ⟨by omega,by omega⟩ ⟨by omega,by omega⟩ ⟨by omega,by omega⟩
   refine .region ?_
   refine .k 1 ?_ (by simp (disch:=first|exact zd|fail) [List.take_succ_cons,List.take_zero,h2',h3']; rfl)
   refine AOPS.frz1 34 (nx + 1 + 1) 1 (wd .u64 [18446744073709551615 - w0,18446744073709551615 - w1,18446744073709551615 - w2,18446744073709551615 - w3]) (Wd .u64 [18446744073709551615 - w0,18446744073709551615 - w1,18446744073709551615 - w2,18446744073709551615 - w3]) (by simp) (by simp [h3']; first | exact fz_wd rfl | exact isl_take_wd (by simp)) ?_
   refine .f (trim_fc [18446744073709551615 - w0,18446744073709551615 - w1,18446744073709551615 - w2,18446744073709551615 - w3] (by simp)) hb234 ?_ (ha:=by simp (disch:=first|exact zd|fail) [idf_Wd',h2',h3'])
   refine .k 1 ?_ (by simp (disch:=first|exact zd|fail) [List.take_succ_cons,List.take_zero,h2',h3']; rfl)
   refine AOPS.frz1 36 (nx + 1 + 1 + 1) 1 (wd .u64 [1]) (Wd .u64 [1]) (by simp) (by simp; first | exact fz_wd rfl | exact isl_take_wd (by simp)) ?_
   refine .f (addWords_fc (trimW [18446744073709551615 - w0,18446744073709551615 - w1,18446744073709551615 - w2,18446744073709551615 - w3]) [1] (Nat.le_trans (trimW_length _) (by simp)) (by simp) (hdo.trim) (Dig.cons (by omega) (by omega) (Dig.nil _))) hb233 ?_ (ha:=by simp (disch:=first|exact zd|fail) [idf_Wd',h2',h3'])
   refine .f (made_fc true (digs 18446744073709551616 (val 18446744073709551616 (trimW [18446744073709551615 - w0,18446744073709551615 - w1,18446744073709551615 - w2,18446744073709551615 - w3]) + val 18446744073709551616 [1]).toNat) (Nat.le_trans (digs_len5 hdo) (by simp)) (digs_dig (by omega) _)) hb183 ?_ (ha:=by simp (disch:=first|exact zd|fail) [idf_Wd',h2',h3'])
   refine .e ?_ (by simp (disch:=first|exact zd|fail) [h2',h3']; rfl)
   refine hK12 _ ?_
   refine .ret ?_
   exact hK _ _ _ _ trivial ((Fin.mk (r:=numI (sg true (val 18446744073709551616 (digs 18446744073709551616 (val 18446744073709551616 (trimW [18446744073709551615 - w0,18446744073709551615 - w1,18446744073709551615 - w2,18446744073709551615 - w3]) + val 18446744073709551616 [1]).toNat)))) (by simp [aRes,aResL,aRes1,h2'])).cast (by rw [sg_true,digs_val (by omega),trimW_val,val4,comp4,sval,if_neg hs]; congr 1; simp [val]; unfold uval; omega))
end

end Go.Proofs.YtjbbbkfdcegfmaaGreat

/- Walks: copies of rows; numbers told in 256 bits. -/
namespace Go.Proofs.YtjbbbkfdcegfmaaGreat
open Go Go.RowKit
set_option linter.unusedSimpArgs false
set_option linter.unusedVariables false
set_option maxRecDepth 100000
attribute [local simp] szT2 byT2 agT2 unT2 zoT2 szT3 byT3 agT3 unT3 zoT3 szT4 byT4 agT4 unT4 zoT4 szT52 byT52 agT52 unT52 zoT52 szT60 byT60 agT60 flT60 fdT60_0 fdT60_1 fdT60_2 fdT60_3 zoT60 szT188 byT188 agT188 elT188 unT188 zoT188 szT190 byT190 agT190 flT190 fdT190_0 fdT190_1 zoT190 srT188 ixT188 lnT188

theorem gt_app0 (l : List Int) (j : Nat) : gt (l ++ [0,0,0,0]) j = gt l j:=by
  unfold gt
  by_cases h : j < l.length
  · rw [List.getElem?_append_left h]
  · rw [List.getElem?_append_right (by omega),List.getElem?_eq_none (l:=l) (by omega)]
    match j - l.length with
    | 0=>rfl
    | 1=>rfl
    | 2=>rfl
    | 3=>rfl
    | k + 4=>simp

section
attribute [local simp] idf_numI cells_numI numI_fold
theorem clone_fc (l : List Int) (hl : l.length ≤ 1099511627776) : FC Tryz.prog 181 [Wd .u64 l] (Wd .u64 l):=by
 refine .b Tryz.func181 8 (fun nx K hK=>?_)
 refine .q ?_
 refine .sq fun K2 hK2=>?_
 refine .sq fun K3 hK3=>?_
 refine AWP.region ?_
 refine AOPS.runk 1 (by simp (disch:=first|exact zd|fail) [List.take_succ_cons,List.take_zero]; rfl) ?_
 simp only [List.drop_succ_cons,List.drop_zero]
 refine AOPS.isnil (k:=.u64) (l:=l) rfl unT188 (by simp) (by simp) (by simp) fun q hq=>?_
 simp only [puts_some]
 refine AOPS.nil ?_
 refine hK3 _ ?_
 refine .c (fun h4=>?_) (fun h4=>?_)
 ·try simp only[dc]at h4
  refine .q ?_
  refine .ret ?_
  exact hK _ _ _ _ trivial ((Fin.mk (r:=.nsl) (by simp [aRes,aResL,aRes1])).weak (by rw [hq h4]; exact fun _ _ _ _=>nsl_Wd .u64))
 ·try simp only[dc]at h4
  refine .skip ?_
  refine hK2 _ ?_
  refine .sq fun K5 hK5=>?_
  refine .region ?_
  refine .k 2 ?_
  refine AOPS.opapp (by simp (disch:=first|exact zd|fail) [if_pos,wd_append,wd_take,wd_drop,List.nil_append]; first | rfl | exact ⟨rfl,rfl⟩ | exact ⟨rfl,rfl,rfl⟩) (by simp) (by simp) ?_
  simp only [puts_some,hdrop]
  refine .e ?_
  refine hK5 _ ?_
  refine .ret ?_
  exact hK _ _ _ _ trivial (((Fin.mk (r:=.osl (nx + 1) 0 l.length) (by simp [aRes,aResL,aRes1])).freeze (id:=nx + 1) (z:=1) (es:=wd .u64 l) (by simp)).cast (fz_wd rfl))
theorem clone_ac (l : List Int) (hl : l.length ≤ 1099511627776) (H : Heap) (nx : Nat) : ACall Tryz.prog 181 [Wd .u64 l] H nx (fun r H' nx'=>(l = [] ∧ r = .nsl ∧ H' = H ∧ nx' = nx) ∨ (r = .osl (nx + 1) 0 l.length ∧ H' = hupd (hupd H nx none) (nx + 1) (some (1,wd .u64 l)) ∧ nx' = nx + 1 + 1)):=by
 refine .b Tryz.func181 8 fun K hK=>?_
 refine .q ?_
 refine .sq fun K2 hK2=>?_
 refine .sq fun K3 hK3=>?_
 refine AWP.region ?_
 refine AOPS.runk 1 (by simp (disch:=first|exact zd|fail) [List.take_succ_cons,List.take_zero]; rfl) ?_
 simp only [List.drop_succ_cons,List.drop_zero]
 refine AOPS.isnil (k:=.u64) (l:=l) rfl unT188 (by simp) (by simp) (by simp) fun q hq=>?_
 simp only [puts_some]
 refine AOPS.nil ?_
 refine hK3 _ ?_
 refine .c (fun h4=>?_) (fun h4=>?_)
 ·try simp only[dc]at h4
  refine .q ?_
  refine .ret ?_
  exact hK _ _ _ _ _ trivial (Fin.mk (r:=.nsl) (by simp [aRes,aResL,aRes1])) (Or.inl ⟨hq h4,rfl,rfl,rfl⟩)
 ·try simp only[dc]at h4
  refine .skip ?_
  refine hK2 _ ?_
  refine .sq fun K5 hK5=>?_
  refine .region ?_
  refine .k 2 ?_
  refine AOPS.opapp (by simp (disch:=first|exact zd|fail) [if_pos,wd_append,wd_take,wd_drop,List.nil_append]; first | rfl | exact ⟨rfl,rfl⟩ | exact ⟨rfl,rfl,rfl⟩) (by simp) (by simp) ?_
  simp only [puts_some,hdrop]
  refine .e ?_
  refine hK5 _ ?_
  refine .ret ?_
  exact hK _ _ _ _ _ trivial (Fin.mk (r:=.osl (nx + 1) 0 l.length) (by simp [aRes,aResL,aRes1])) (Or.inr ⟨rfl,by simp,rfl⟩)
set_option maxHeartbeats 1000000 in
theorem wide_fc {k : Nat} {z : Int} (hz : Bg k z) (hk : k ≤ 274877906944) : FC Tryz.prog 243 [numI z] (.tup [wdT z,.bool (fits z)]):=by
 refine .b Tryz.func243 50 (fun nx K hK=>?_) (hr:=by simp [idfL,idf,idf_wdT])
 refine .q ?_
 refine .q ?_
 refine .sq fun K3 hK3=>?_
 have J3 : ∀ s : St,(s.env 1 = .ptr nx 0 0 ∧ s.env 2 = .ptr (nx + 1) 0 0 ∧ s.env 4 = .ptr (nx + 1 + 1) 0 0 ∧ s.heap = hupd (hupd (hupd (fun _=>none) nx (some (2,[[.bool (decide (z < 0)),Wd .u64 (mag z)]]))) (nx + 1) (some (4,[[.int .u64 0,.int .u64 0,.int .u64 0,.int .u64 0]]))) (nx + 1 + 1) (some (2,[[.bool (decide ((if z < 0 then z + 1 else z) < 0)),Wd .u64 (mag (if z < 0 then z + 1 else z))]])) ∧ nx + 1 + 1 < s.nx ∧ s.nt = 50) → K3 s:=by
  rintro ⟨e,H,m,nt⟩ ⟨h1,h2,h4,rfl,hm,rfl⟩
  simp only [] at h1 h2 h4 hm
  have hn : Bg (max k 1 + 1) (if z < 0 then z + 1 else z):=by
    split
    · exact hz.add (Bg.i64 (by omega) (by omega))
    · exact hz.le (by omega)
  have hfit:=fits_iff (z:=z)
  have hneg : z < 0 → ((if z < 0 then z + 1 else z).natAbs : Int) = -z - 1:=by intro h; rw [if_pos h]; omega
  have hpos : ¬ z < 0 → ((if z < 0 then z + 1 else z).natAbs : Int) = z:=by intro h; rw [if_neg h]; omega
  generalize (if z < 0 then z + 1 else z) = n at *
  refine hK3 _ ?_
  refine .sq fun K4 hK4=>?_
  refine .sq fun K5 hK5=>?_
  refine .region ?_
  refine .kf 1 (size_fc hn (by omega)) hb140 ?_ (by simp (disch:=first|exact zd|fail) [List.take_succ_cons,List.take_zero,h4]; rfl) (ha:=by simp (disch:=first|exact zd|fail) [idf_Wd',h4])
  refine .e ?_ (by simp (disch:=first|exact zd|fail) [h4]; rfl)
  refine hK5 _ ?_
  refine .c (fun h15=>?_) (fun h15=>?_)
  ·try simp only[dc]at h15
   have hf : fits z = false:=by
     cases h : fits z with
     | false=>rfl
     | true=>have:=hfit.mpr h; omega
   refine .q ?_ (by simp (disch:=first|exact zd|fail) [h2]; rfl)
   refine .ret ?_
   exact hK _ _ _ _ trivial ((Fin.mk (by simp (disch:=omega) [aRes,aResL,aRes1,h2]; rfl)).cast (by simp [wdT,hf,wdI]))
  ·try simp only[dc]at h15
   have hf : fits z = true:=hfit.mp (by omega)
   have hl4 : (mag n).length ≤ 4:=Bg.len (k:=4) (by
     have:=bitLen_le.mp (hfit.mpr hf)
     exact Nat.lt_of_lt_of_le this (by decide))
   refine .skip ?_
   refine hK4 _ ?_
   refine .sq fun K7 hK7=>?_
   have J7 : ∀ s : St,(∃ id,s.env 1 = .ptr nx 0 0 ∧ s.env 2 = .ptr (nx + 1) 0 0 ∧ s.env 5 = .osl id 0 ((mag n).length + 4) ∧ s.heap nx = some (2,[[.bool (decide (z < 0)),Wd .u64 (mag z)]]) ∧ s.heap (nx + 1) = some (4,[[.int .u64 0,.int .u64 0,.int .u64 0,.int .u64 0]]) ∧ s.heap id = some (1,wd .u64 (mag n ++ [0,0,0,0])) ∧ nx + 1 < id ∧ s.nt = 50) → K7 s:=by
    clear h1 h2 h4
    rintro ⟨e,H,m2,nt⟩ ⟨id,h1,h2,h5,hA,hB,hC,hid,rfl⟩
    simp only [] at h1 h2 h5 hA hB hC
    refine hK7 _ ?_
    refine .sq fun K8 hK8=>?_
    refine .q ?_ (by simp (disch:=first|exact zd|fail) [h1,hA]; rfl)
    refine .c (fun h22=>?_) (fun h22=>?_)
    ·try simp only[dc]at h22
     have hzn : z < 0:=by simpa using h22
     refine .q ?_ (by simp (disch:=first|exact zd|fail) [h5,hC]; rfl)
     refine .block ?_
     refine .loop (fun n' s=>∃ i out,n' = (mag n).length + 4 - i ∧ i ≤ (mag n).length + 4 ∧ out.length = (mag n).length + 4 ∧ (∀ j,j < (mag n).length + 4 → gt out j = if j < i then 18446744073709551615 - gt (mag n ++ [0,0,0,0]) j else gt (mag n ++ [0,0,0,0]) j) ∧ s.env 2 = .ptr (nx + 1) 0 0 ∧ s.env 5 = .osl id 0 ((mag n).length + 4) ∧ s.env 24 = .int .i64 ((mag n).length + 4 : Nat) ∧ s.env 25 = .int .i64 (i : Int) ∧ s.heap (nx + 1) = some (4,[[.int .u64 0,.int .u64 0,.int .u64 0,.int .u64 0]]) ∧ s.heap id = some (1,wd .u64 out) ∧ s.nt = 50) ((mag n).length + 4) (⟨0,mag n ++ [0,0,0,0],by omega,by omega,by simp,by intro j hj; simp,by simp [h2],by simp [h5],by simp,by simp,by simp [hB],by simp [hC],rfl⟩) ?_
     clear h1 h2 h5 hA hB hC
     rintro n' ⟨e,H,m3,nt⟩ ⟨i,out,rfl,hi,ho,hg,h2,h5,h24,h25,hB,hC,rfl⟩
     simp only [] at h2 h5 h24 h25 hB hC
     refine .q ?_ (by simp (disch:=first|exact zd|fail) [h24,h25]; rfl)
     refine .sq fun K12 hK12=>?_
     refine .c (fun h26=>?_) (fun h26=>?_)
     ·try simp only[dc]at h26
      have hi' : i < (mag n).length + 4:=by omega
      have hgi : 0 ≤ gt out i ∧ gt out i < 18446744073709551616:=by
        have:=hg i hi'
        rw [if_neg (Nat.lt_irrefl i)] at this
        rw [this]; exact (Dig.append (mag_dig n) (dig4 (by unfold U64; omega) (by unfold U64; omega) (by unfold U64; omega) (by unfold U64; omega))).gt (by omega) i
      have hx:=not_u64 hgi.1 hgi.2
      refine .skip ?_
      refine hK12 _ ?_
      refine .sq fun K13 hK13=>?_
      refine .block ?_
      refine .q ?_ (by simp (disch:=first|exact zd|fail) [h25]; rfl)
      refine .r ?_ (by simp (disch:=first|exact zd|fail) [if_pos,h5,hC,ho,hx,ld_ip agT52]; rfl)
      refine hK13 _ ?_
      refine .r ?_ (by simp (disch:=first|exact zd|fail) [h25]; rfl)
      refine ⟨(mag n).length + 4 - (i + 1),by omega,i + 1,out.set i (18446744073709551615 - gt out i),rfl,by omega,by simp [ho],?_,by simp [h2],by simp [h5],by simp [h24],by simp (disch:=omega) [h25],by simp (disch:=omega) [hB],by simp,rfl⟩
      intro j hj
      by_cases hji : j = i
      · subst hji; rw [gt_set (by omega),hg _ hj]; simp
      · rw [gt_set_ne (Ne.symm hji),hg _ hj]
        by_cases hlt : j < i
        · rw [if_pos hlt,if_pos (by omega)]
        · rw [if_neg hlt,if_neg (by omega)]
     ·try simp only[dc]at h26
      obtain rfl : i = (mag n).length + 4:=by omega
      refine .exit ?_
      refine hK8 _ ?_
      refine .sq fun K15 hK15=>?_
      refine .df 13 ?_ (by simp (disch:=first|exact zd|fail) [if_pos,h2,h5,hB,hC,ho,ld_ip agT52]; rfl)
      refine hK15 _ ?_
      refine .ret ?_
      exact hK _ _ _ _ trivial ((Fin.mk (by simp (disch:=omega) [aRes,aResL,aRes1,h2]; rfl)).cast (by have hw:=words4 (mag_dig n) hl4; rw [mag_val,hneg hzn] at hw; simp only [wdT,hf,if_true]; rw [wdZ_neg hw.2.2.2.2 hw.2.2.2.1 hw.2.2.1 hw.2.1 hw.1]; rw [hg 0 (by omega),hg 1 (by omega),hg 2 (by omega),hg 3 (by omega)]; simp [wdI,gt_app0]))
    ·try simp only[dc]at h22
     have hzn : ¬ z < 0:=by simpa using h22
     refine .skip ?_
     refine hK8 _ ?_
     refine .sq fun K16 hK16=>?_
     refine .df 13 ?_ (by simp (disch:=first|exact zd|fail) [if_pos,h2,h5,hB,hC,ld_ip agT52]; rfl)
     refine hK16 _ ?_
     refine .ret ?_
     exact hK _ _ _ _ trivial ((Fin.mk (by simp (disch:=omega) [aRes,aResL,aRes1,h2]; rfl)).cast (by have hw:=words4 (mag_dig n) hl4; rw [mag_val,hpos hzn] at hw; simp only [wdT,hf,if_true]; rw [wdZ_pos hw.2.2.2.2 hw.2.2.2.1 hw.2.2.1 hw.2.1 (by omega) hw.1]; simp [wdI,gt_app0]))
   refine AWP.region ?_
   refine AOPS.runk 2 (by simp (disch:=first|exact zd|fail) [List.take_succ_cons,List.take_zero,h1,h4]; rfl) ?_
   simp only [List.drop_succ_cons,List.drop_zero]
   refine AOPS.acall (clone_ac (mag n) (by omega) _ _) rfl rfl rfl hb181 (by simp) (by simp) (by simp) ?_
   rintro r H' nx' (⟨he,rfl,rfl,rfl⟩ | ⟨rfl,rfl,rfl⟩)
   · simp only [puts_some]
     refine AOPS.opapp (d:=none) (z:=1) (es:=wd .u64 [0,0,0,0]) (by simp (disch:=first|exact zd|fail) [if_pos,wd_append,wd_take,wd_drop,List.nil_append,h1,h4]; try first | rfl | exact ⟨rfl,rfl,rfl⟩ | exact fun h=>absurd (congrArg List.length h) (by rw [wd_len]; decide)) (by simp) (by simp) ?_
     simp only [puts_some,hdrop]
     refine AOPS.all (by simp (disch:=first|exact zd|fail) [List.take_succ_cons,List.take_zero,h1,h4]; rfl) ?_
     refine J7 _ ⟨_,by simp [h1],by simp [h2],by simp [he,wd_len]; rfl,by simp (disch:=omega),by simp (disch:=omega),by simp [he],by omega,rfl⟩
   · simp only [puts_some]
     refine AOPS.opapp (d:=some (m + 1)) (z:=1) (es:=wd .u64 (mag n ++ [0,0,0,0])) (by simp (disch:=first|exact zd|fail) [if_pos,wd_append,wd_take,wd_drop,List.nil_append,h1,h4]; try first | rfl | exact ⟨rfl,rfl,rfl⟩ | exact fun h=>absurd (congrArg List.length h) (by rw [wd_len]; decide)) (by simp) (by simp) ?_
     simp only [puts_some,hdrop]
     refine AOPS.all (by simp (disch:=first|exact zd|fail) [List.take_succ_cons,List.take_zero,h1,h4]; rfl) ?_
     refine J7 _ ⟨_,by simp [h1],by simp [h2],by simp [wd_len]; rfl,by simp (disch:=omega),by simp (disch:=omega),by simp,by omega,rfl⟩
 refine .q ?_
 refine .c (fun h9=>?_) (fun h9=>?_)
 ·try simp only[dc]at h9
  refine .d 3 ?_
  refine .k 1 (fun fs18 hfs18=>?_)
  refine .f (whole_fc 1 (by omega) (by omega)) hb143 ?_
  refine .f (plus_fc (a:=z) (b:=1) hz (Bg.i64 (by omega) (by omega)) hk (by omega)) hb198 ?_
  refine .r 3 (by simp only[ln,hfs18];omega) ?_
  refine J3 _ ?_
  exact ⟨by simp,by simp,by simp,by simp [h9],by simp,rfl⟩
 ·try simp only[dc]at h9
  refine .skip ?_
  refine J3 _ ?_
  exact ⟨by simp,by simp,by simp,by simp [h9],by simp,rfl⟩
end
section
attribute [local simp] idf_numI cells_numI numI_fold idf_wdZ cells_wdZ wdC_len wdC_all wdC_agg wdC_one wdC_take
theorem wideOf_fc (n : Int) (h1 : -9223372036854775808 ≤ n) (h2 : n ≤ 9223372036854775807) : FC Tryz.prog 194 [.int .i64 n] (wdZ n):=by
 have hf : fits n = true:=by unfold fits; simp; omega
 have ht : wdT n = wdZ n:=by simp [wdT,hf]
 refine .b Tryz.func194 12 (fun nx K hK=>?_) (hr:=by simp [idfL,idf,idf_wdZ])
 refine .q ?_
 refine .sq fun K2 hK2=>?_
 refine .region ?_
 refine .kf 1 (whole_fc n h1 h2) hb143 ?_ (by simp (disch:=first|exact zd|fail) [List.take_succ_cons,List.take_zero,ht,hf]; rfl) (ha:=by simp (disch:=first|exact zd|fail) [idf_Wd',ht,hf])
 refine .f (wide_fc (z:=n) (Bg.i64 h1 h2) (by omega)) hb243 ?_ (ha:=by simp (disch:=first|exact zd|fail) [idf_Wd',ht,hf])
 refine .e ?_ (by simp (disch:=first|exact zd|fail) [ht,hf]; rfl)
 refine hK2 _ ?_
 refine .q ?_
 refine .ret ?_
 exact hK _ _ _ _ trivial (Fin.mk (r:=wdZ n) (by simp [aRes,aResL,aRes1]))
end

end Go.Proofs.YtjbbbkfdcegfmaaGreat

/- Walks: the reference's numbers. -/
namespace Go.Proofs.YtjbbbkfdcegfmaaGreat
open Go Go.RowKit
set_option linter.unusedSimpArgs false
set_option linter.unusedVariables false
set_option maxRecDepth 100000
attribute [local simp] szT3 byT3 agT3 unT3 zoT3 szT4 byT4 agT4 unT4 zoT4 szT103 byT103 agT103 elT103 unT103 zoT103 szT105 byT105 agT105 flT105 fdT105_0 fdT105_1 zoT105 szT223 byT223 agT223 unT223 zoT223 srT103 ixT103 lnT103

section
attribute [local simp] idf_numS cells_numS numS_fold
theorem l1Trim_fc (b : Bool) (l : List Int) (hl : l.length ≤ 1099511627776) (hd : Dig 4294967296 l) : FC Tryz.prog 176 [.bool b,Wd .u32 l] (numS (sg b (val 4294967296 l))):=by
 refine .b Tryz.func176 28 (fun nx K hK=>?_)
 refine .q ?_
 refine .q ?_
 refine .sq fun K3 hK3=>?_
 refine .block ?_
 refine .loop (fun n s=>n ≤ l.length ∧ trimW (l.take n) = trimW l ∧ s.env 0 = .bool b ∧ s.env 1 = Wd .u32 l ∧ s.env 4 = .ptr nx 0 0 ∧ s.env 5 = .int .i64 (n : Int) ∧ s.heap = hupd (fun _=>none) nx (some (2,[[.bool false,.nsl]])) ∧ s.nt = 28) (l.length) (⟨Nat.le_refl _,by rw [List.take_length],by simp,by simp,by simp,by simp,by simp,rfl⟩) ?_
 rintro n ⟨e,H,m,nt⟩ ⟨hn,ht,h0,h1,h4,h5,rfl,rfl⟩
 simp only [] at h0 h1 h4 h5
 refine .sq fun K4 hK4=>?_
 refine .sq fun K5 hK5=>?_
 cases n with
 | zero=>?_
 | succ p=>?_
 ·refine .r ?_ (by simp (disch:=first|exact zd|fail) [if_pos,h1,h5]; rfl)
  refine hK5 _ ?_
  refine .c (fun h17=>?_) (fun h17=>?_)
  ·simp at h17
  ·try simp only[dc]at h17
   refine .exit ?_
   refine hK3 _ ?_
   refine .sq fun K6 hK6=>?_
   refine .q ?_ (by simp (disch:=first|exact zd|fail) [h5]; rfl)
   refine .c (fun h21=>?_) (fun h21=>?_)
   ·try simp only[dc]at h21
    refine .q ?_ (by simp (disch:=first|exact zd|fail) [h4]; rfl)
    refine .ret ?_
    exact hK _ _ _ _ trivial ((Fin.mk (r:=.agg [.bool false,.nsl]) (by simp [aRes,aResL,aRes1,h4])).weak (by
      have e : val 4294967296 l = 0:=by rw [← trimW_val,← ht]; rfl
      rw [e,sg_zero]; exact fun _ _ _ _=>nS0_weak))
   ·simp at h21
 ·replace h5 : e 5 = .int .i64 ((p : Int) + 1):=by simpa using h5
  refine .r ?_ (by simp (disch:=first|exact zd|fail) [if_pos,h1,h5,ld_ip agT223]; rfl)
  refine hK5 _ ?_
  refine .c (fun h17=>?_) (fun h17=>?_)
  ·try simp only[dc]at h17
   have hx : gt l p = 0:=by simpa using h17
   refine .skip ?_
   refine hK4 _ ?_
   refine .block ?_
   refine .r ?_ (by simp (disch:=first|exact zd|fail) [h5]; rfl)
   exact ⟨p,by omega,by omega,by rw [← ht,take_succ_gt (by omega),hx,trimW_concat_zero],by simp [h0],by simp [h1],by simp [h4],by simp (disch:=omega),rfl,rfl⟩
  ·try simp only[dc]at h17
   have hx : gt l p ≠ 0:=by simpa using h17
   refine .exit ?_
   refine hK3 _ ?_
   refine .sq fun K9 hK9=>?_
   refine .q ?_ (by simp (disch:=first|exact zd|fail) [h5]; rfl)
   refine .c (fun h21=>?_) (fun h21=>?_)
   ·simp at h21; omega
   ·try simp only[dc]at h21
    refine .skip ?_
    refine hK9 _ ?_
    refine .q ?_ (by simp (disch:=first|exact zd|fail) [if_pos,h0,h1,h4,h5,slc_Wd (P:=Tryz.prog) (k:=.u32) (l:=l) (lo:=none) (hi:=some (.int .i64 ((p : Int) + 1))) (a:=0) (b:=p + 1) elT103 szT223 rfl (by simp [bnd]; omega) (Nat.zero_le _) (by omega)]; rfl)
    refine .ret ?_
    exact hK _ _ _ _ trivial ((Fin.mk (r:=.agg [.bool b,Wd .u32 (l.take (p + 1))]) (by simp [aRes,aResL,aRes1,h4])).cast (by
      have e : trimW l = l.take (p + 1):=by rw [← ht,take_succ_gt (by omega),trimW_concat_pos _ _ hx]
      rw [← e]; exact numS_mk hd (by rw [e,take_succ_gt (by omega)]; simp)))
end
theorem l1CmpAbs_fc (a b : List Int) (ha : a.length ≤ 1099511627776) (hb : b.length ≤ 1099511627776) : FC Tryz.prog 170 [Wd .u32 a,Wd .u32 b] (.int .i64 (cmpS a b)):=by
 refine .b Tryz.func170 41 (fun nx K hK=>?_)
 refine .q ?_
 refine .sq fun K2 hK2=>?_
 refine .q ?_
 refine .c (fun h10=>?_) (fun h10=>?_)
 ·try simp only[dc]at h10
  have hne : a.length ≠ b.length:=by simp at h10; omega
  refine .sq fun K4 hK4=>?_
  refine .q ?_
  refine .c (fun h15=>?_) (fun h15=>?_)
  ·try simp only[dc]at h15
   refine .q ?_
   refine .ret ?_
   exact hK _ _ _ _ trivial (Fin.mk (by simp (disch:=omega) [aRes,aResL,aRes1,cmpS,hne]; omega))
  ·try simp only[dc]at h15
   refine .skip ?_
   refine hK4 _ ?_
   refine .q ?_
   refine .ret ?_
   exact hK _ _ _ _ trivial (Fin.mk (by simp (disch:=omega) [aRes,aResL,aRes1,cmpS,hne]; omega))
 ·try simp only[dc]at h10
  have hne : a.length = b.length:=by simp at h10; omega
  refine .skip ?_
  refine hK2 _ ?_
  refine .sq fun K8 hK8=>?_
  refine .q ?_
  refine .block ?_
  refine .loop (fun n s=>n ≤ a.length ∧ cmpAt a b n = cmpAt a b a.length ∧ s.env 0 = Wd .u32 a ∧ s.env 1 = Wd .u32 b ∧ s.env 5 = .int .i64 ((n : Int) - 1) ∧ s.heap = (fun _=>none) ∧ s.nt = 41) (a.length) (⟨Nat.le_refl _,rfl,by simp,by simp,by simp (disch:=omega),rfl,rfl⟩) ?_
  rintro n ⟨e,H,nx,nt⟩ ⟨hlen,ht,h0,h1,h5,rfl,rfl⟩
  simp only [] at h0 h1 h5
  refine .sq fun K10 hK10=>?_
  refine .q ?_ (by simp (disch:=first|exact zd|fail) [h5]; rfl)
  refine .c (fun h20=>?_) (fun h20=>?_)
  ·try simp only[dc]at h20
   obtain ⟨m,rfl⟩ : ∃ m,n = m + 1:=⟨n - 1,by omega⟩
   replace h5 : e 5 = .int .i64 (m : Int):=by simpa using h5
   refine .skip ?_
   refine hK10 _ ?_
   refine .sq fun K12 hK12=>?_
   refine .block ?_
   refine .sq fun K13 hK13=>?_
   refine .sq fun K14 hK14=>?_
   refine .df 9 ?_ (by simp (disch:=first|exact zd|fail) [if_pos,h0,h1,h5,ld_ip agT223]; rfl)
   refine hK14 _ ?_
   refine .c (fun h31=>?_) (fun h31=>?_)
   ·try simp only[dc]at h31
    refine .q ?_
    refine .ret ?_
    exact hK _ _ _ _ trivial (Fin.mk (by simp [aRes,aResL,aRes1,cmpS,hne]; rw [← hne,← ht,cmpAt,if_neg (by omega),if_pos h31]))
   ·try simp only[dc]at h31
    refine .skip ?_
    refine hK13 _ ?_
    refine .sq fun K16 hK16=>?_
    refine .df 9 ?_ (by simp (disch:=first|exact zd|fail) [if_pos,h0,h1,h5,ld_ip agT223]; rfl)
    refine hK16 _ ?_
    refine .c (fun h40=>?_) (fun h40=>?_)
    ·try simp only[dc]at h40
     refine .q ?_
     refine .ret ?_
     exact hK _ _ _ _ trivial (Fin.mk (by simp [aRes,aResL,aRes1,cmpS,hne]; rw [← hne,← ht,cmpAt,if_neg (by omega),if_neg (by omega)]))
    ·try simp only[dc]at h40
     have hx : gt a m = gt b m:=by omega
     refine .skip ?_
     refine hK12 _ ?_
     refine .r ?_ (by simp (disch:=first|exact zd|fail) [h5]; rfl)
     exact ⟨m,by omega,by omega,by rw [← ht,cmpAt,if_pos hx],by simp [h0],by simp [h1],by simp (disch:=omega),rfl,rfl⟩
  ·try simp only[dc]at h20
   obtain rfl : n = 0:=by omega
   refine .exit ?_
   refine hK8 _ ?_
   refine .q ?_
   refine .ret ?_
   exact hK _ _ _ _ trivial (Fin.mk (by simp [aRes,aResL,aRes1,cmpS,hne]; rw [← hne,← ht,cmpAt]))

end Go.Proofs.YtjbbbkfdcegfmaaGreat

/- Walks: the reference's sums. -/
namespace Go.Proofs.YtjbbbkfdcegfmaaGreat
open Go Go.RowKit
set_option linter.unusedSimpArgs false
set_option linter.unusedVariables false
set_option maxRecDepth 100000
attribute [local simp] szT3 byT3 agT3 unT3 zoT3 szT52 byT52 agT52 unT52 zoT52 szT103 byT103 agT103 elT103 unT103 zoT103 szT223 byT223 agT223 unT223 zoT223 srT103 ixT103 lnT103

set_option maxHeartbeats 1000000 in
theorem l1AddAbs_fc (a b : List Int) (ha : a.length ≤ 549755813888) (hb : b.length ≤ 549755813888) (da : Dig 4294967296 a) (db : Dig 4294967296 b) : FC Tryz.prog 222 [Wd .u32 a,Wd .u32 b] (Wd .u32 (addS a b)):=by
 refine .b Tryz.func222 58 (fun nx K hK=>?_)
 refine .q ?_
 refine .sq fun K2 hK2=>?_
 have J2 : ∀ s : St,(∃ a' b',s.env 0 = Wd .u32 a' ∧ s.env 1 = Wd .u32 b' ∧ a'.length ≤ 549755813888 ∧ b'.length ≤ a'.length ∧ Dig 4294967296 a' ∧ Dig 4294967296 b' ∧ addS a b = addO a' b' ∧ s.heap = (fun _=>none) ∧ s.nt = 58) → K2 s:=by
  rintro ⟨e,H,nx,nt⟩ ⟨a',b',h0,h1,hlen,hle,da',db',hv,rfl,rfl⟩
  simp only [] at h0 h1
  refine hK2 _ ?_
  refine .sq fun K3 hK3=>?_
  refine AWP.region ?_
  refine AOPS.runk 3 (by simp (disch:=first|exact zd|fail) [List.take_succ_cons,List.take_zero,if_pos,h0,h1]; rfl) ?_
  simp only [List.drop_succ_cons,List.drop_zero]
  refine AOPS.opnew (.osl nx 0 0) 1 [] (by simp [opNew,elT103,szT223,byT223,zoT223,ev,cv,h0,h1]; omega) (by simp) (by simp) ?_
  simp only [puts_some]
  refine AOPS.all (by simp (disch:=first|exact zd|fail) [List.take_succ_cons,List.take_zero,if_pos,h0,h1]; rfl) ?_
  refine hK3 _ ?_
  refine .q ?_
  refine .sq fun K5 hK5=>?_
  refine .q ?_
  refine .block ?_
  refine .loop (fun n s=>∃ i id,n = a'.length - i ∧ i ≤ a'.length ∧ s.env 0 = Wd .u32 a' ∧ s.env 1 = Wd .u32 b' ∧ s.env 5 = .osl id 0 i ∧ s.env 6 = .int .u64 (addR a' b' i).2 ∧ s.env 7 = .int .i64 (i : Int) ∧ s.heap id = some (1,wd .u32 (addR a' b' i).1) ∧ id < s.nx ∧ s.nt = 58) (a'.length) (⟨0,nx,by omega,by omega,by simp [h0],by simp [h1],by simp,by simp [addR],by simp,by simp [addR,wd],by simp,rfl⟩) ?_
  rintro n ⟨e,H,m,nt⟩ ⟨i,id,rfl,hi,h0,h1,h5,h6,h7,hH,hid,rfl⟩
  simp only [] at h0 h1 h5 h6 h7 hH hid
  obtain ⟨r1,r2,r3,r4,r5⟩:=addR_spec da' db' i
  have ht : List.take i (addR a' b' i).1 = (addR a' b' i).1:=List.take_of_length_le (by omega)
  refine .sq fun K7 hK7=>?_
  refine .q ?_ (by simp (disch:=first|exact zd|fail) [h0,h7]; rfl)
  refine .c (fun h22=>?_) (fun h22=>?_)
  ·try simp only[dc]at h22
   have hi' : i < a'.length:=by omega
   have ga:=da'.gt (by omega) i
   have gb:=db'.gt (by omega) i
   refine .skip ?_
   refine hK7 _ ?_
   refine .sq fun K9 hK9=>?_
   refine .block ?_
   refine .q ?_ (by simp (disch:=first|exact zd|fail) [if_pos,h0,h6,h7,ld_ip agT223]; rfl)
   refine .sq fun K11 hK11=>?_
   have J11 : ∀ s : St,(s.env 0 = Wd .u32 a' ∧ s.env 1 = Wd .u32 b' ∧ s.env 5 = .osl id 0 i ∧ s.env 6 = .int .u64 ((addR a' b' i).2 + gt a' i + gt b' i) ∧ s.env 7 = .int .i64 (i : Int) ∧ s.heap id = some (1,wd .u32 (addR a' b' i).1) ∧ id < s.nx ∧ s.nt = 58) → K11 s:=by
    clear h0 h1 h5 h6 h7 hH hid
    rintro ⟨e,H,m,nt⟩ ⟨h0,h1,h5,h6,h7,hH,hid,rfl⟩
    simp only [] at h0 h1 h5 h6 h7 hH hid
    refine hK11 _ ?_
    refine .sq fun K12 hK12=>?_
    have J12 : ∀ s : St,(∃ id2,s.env 0 = Wd .u32 a' ∧ s.env 1 = Wd .u32 b' ∧ s.env 5 = .osl id2 0 (i + 1) ∧ s.env 6 = .int .u64 ((addR a' b' i).2 + gt a' i + gt b' i) ∧ s.env 7 = .int .i64 (i : Int) ∧ s.heap id2 = some (1,wd .u32 (addR a' b' (i + 1)).1) ∧ id2 < s.nx ∧ s.nt = 58) → K12 s:=by
     clear h0 h1 h5 h6 h7 hH hid
     rintro ⟨e,H,m,nt⟩ ⟨id2,h0,h1,h5,h6,h7,hH,hid,rfl⟩
     simp only [] at h0 h1 h5 h6 h7 hH hid
     refine hK12 _ ?_
     refine .r ?_ (by simp (disch:=first|exact zd|fail) [h6]; rfl)
     refine hK9 _ ?_
     refine .r ?_ (by simp (disch:=first|exact zd|fail) [h7]; rfl)
     refine ⟨a'.length - (i + 1),by omega,i + 1,id2,rfl,by omega,by simp [h0],by simp [h1],by simp [h5],by simp (disch:=omega) [addR,wrap_u64m,IntKind.bits,Int.fdiv_eq_ediv_of_nonneg],by simp (disch:=omega) [h7],by simp [hH],by simpa using hid,rfl⟩
    refine .region ?_
    refine .k 4 ?_ (by simp (disch:=first|exact zd|fail) [List.take_succ_cons,List.take_zero,h5,h6,hH,r1,Nat.ne_of_lt hid]; rfl)
    refine AOPS.opapp (by simp (disch:=first|exact zd|fail) [if_pos,wd_append,wd_take,wd_drop,List.nil_append,h5,h6,hH,r1,Nat.ne_of_lt hid]; first | rfl | exact ⟨rfl,rfl⟩ | exact ⟨rfl,rfl,rfl⟩) (by simp) (by simp) ?_
    simp only [puts_some,hdrop]
    refine .e ?_ (by simp (disch:=first|exact zd|fail) [h5,h6,hH,r1,Nat.ne_of_lt hid]; rfl)
    refine J12 _ ?_
    exact ⟨_,by simp [h0],by simp [h1],by simp [r1]; rfl,by simp [h6],by simp [h7],by simp [addR,wrap_u32m,ht],by simp,rfl⟩
   refine .q ?_ (by simp (disch:=first|exact zd|fail) [h1,h7]; rfl)
   refine .c (fun h35=>?_) (fun h35=>?_)
   ·try simp only[dc]at h35
    have hib : i < b'.length:=by omega
    refine .r ?_ (by simp (disch:=first|exact zd|fail) [if_pos,h1,h7,ld_ip agT223]; rfl)
    refine J11 _ ?_
    exact ⟨by simp [h0],by simp [h1],by simp [h5],by simp,by simp [h7],by simp [hH],by simpa using hid,rfl⟩
   ·try simp only[dc]at h35
    refine .skip ?_
    refine J11 _ ?_
    exact ⟨by simp [h0],by simp [h1],by simp [h5],by simp [gt_ge (show b'.length ≤ i by omega)],by simp [h7],by simp [hH],by simpa using hid,rfl⟩
  ·try simp only[dc]at h22
   obtain rfl : i = a'.length:=by omega
   refine .exit ?_
   refine hK5 _ ?_
   refine .sq fun K14 hK14=>?_
   refine .q ?_ (by simp (disch:=first|exact zd|fail) [h6]; rfl)
   refine .c (fun h51=>?_) (fun h51=>?_)
   ·try simp only[dc]at h51
    have hc : 0 < (addR a' b' a'.length).2:=by omega
    have hm2 : (addR a' b' a'.length).2 % 4294967296 = (addR a' b' a'.length).2:=Int.emod_eq_of_lt r3 (by omega)
    refine .region ?_
    refine .k 4 ?_ (by simp (disch:=first|exact zd|fail) [List.take_succ_cons,List.take_zero,h5,h6,hH,r1,Nat.ne_of_lt hid]; rfl)
    refine AOPS.opapp (by simp (disch:=first|exact zd|fail) [if_pos,wd_append,wd_take,wd_drop,List.nil_append,h5,h6,hH,r1,Nat.ne_of_lt hid]; first | rfl | exact ⟨rfl,rfl⟩ | exact ⟨rfl,rfl,rfl⟩) (by simp) (by simp) ?_
    simp only [puts_some,hdrop]
    refine .e ?_ (by simp (disch:=first|exact zd|fail) [h5,h6,hH,r1,Nat.ne_of_lt hid]; rfl)
    refine hK14 _ ?_
    refine .q ?_ (by simp (disch:=first|exact zd|fail) [h5]; rfl)
    refine .ret ?_
    exact hK _ _ _ _ trivial (((Fin.mk (r:=.osl (m + 1) 0 (a'.length + 1)) (by simp (disch:=omega) [aRes,aResL,aRes1,r1])).freeze (id:=m + 1) (z:=1) (es:=wd .u32 (addO a' b')) (by simp [addO,hc,wrap_u32m,ht,hm2])).cast (by rw [hv]; exact fz_wd (by simp [addO,hc,r1])))
   ·try simp only[dc]at h51
    have hc : ¬ 0 < (addR a' b' a'.length).2:=by omega
    refine .skip ?_
    refine hK14 _ ?_
    refine .q ?_ (by simp (disch:=first|exact zd|fail) [h5]; rfl)
    refine .ret ?_
    exact hK _ _ _ _ trivial (((Fin.mk (r:=.osl id 0 a'.length) (by simp [aRes,aResL,aRes1])).freeze (id:=id) (z:=1) (es:=wd .u32 (addO a' b')) (by simp [hH,addO,hc])).cast (by rw [hv]; exact fz_wd (by simp [addO,hc,r1])))
 refine .q ?_
 refine .c (fun h12=>?_) (fun h12=>?_)
 ·try simp only[dc]at h12
  refine .r ?_
  refine J2 _ ?_
  exact ⟨b,a,by simp,by simp,hb,by omega,db,da,by rw [addS,if_pos (by omega)],rfl,rfl⟩
 ·try simp only[dc]at h12
  refine .skip ?_
  refine J2 _ ?_
  exact ⟨a,b,by simp,by simp,ha,by omega,da,db,by rw [addS,if_neg (by omega)],rfl,rfl⟩
set_option maxHeartbeats 1000000 in
theorem l1SubAbs_fc (a b : List Int) (ha : a.length ≤ 549755813888) (da : Dig 4294967296 a) (db : Dig 4294967296 b) : FC Tryz.prog 172 [Wd .u32 a,Wd .u32 b] (Wd .u32 (subS a b)):=by
 refine .b Tryz.func172 49 (fun nx K hK=>?_)
 refine .q ?_
 refine .sq fun K2 hK2=>?_
 refine AWP.region ?_
 refine AOPS.runk 2 (by simp (disch:=first|exact zd|fail) [List.take_succ_cons,List.take_zero,if_pos]; rfl) ?_
 simp only [List.drop_succ_cons,List.drop_zero]
 refine AOPS.opnew (.osl nx 0 0) 1 [] (by simp [opNew,elT103,szT223,byT223,zoT223,ev,cv]; omega) (by simp) (by simp) ?_
 simp only [puts_some]
 refine AOPS.all (by simp (disch:=first|exact zd|fail) [List.take_succ_cons,List.take_zero,if_pos]; rfl) ?_
 refine hK2 _ ?_
 refine .q ?_
 refine .sq fun K4 hK4=>?_
 refine .q ?_
 refine .block ?_
 refine .loop (fun n s=>∃ i id,n = a.length - i ∧ i ≤ a.length ∧ s.env 0 = Wd .u32 a ∧ s.env 1 = Wd .u32 b ∧ s.env 5 = .osl id 0 i ∧ s.env 6 = .int .u64 (subR a b i).2 ∧ s.env 7 = .int .i64 (i : Int) ∧ s.heap id = some (1,wd .u32 (subR a b i).1) ∧ id < s.nx ∧ s.nt = 49) (a.length) (⟨0,nx,by omega,by omega,by simp,by simp,by simp,by simp [subR],by simp,by simp [subR,wd],by simp,rfl⟩) ?_
 rintro n ⟨e,H,m,nt⟩ ⟨i,id,rfl,hi,h0,h1,h5,h6,h7,hH,hid,rfl⟩
 simp only [] at h0 h1 h5 h6 h7 hH hid
 obtain ⟨r1,r2,r3,r4,r5⟩:=subR_spec da db i
 have ht : List.take i (subR a b i).1 = (subR a b i).1:=List.take_of_length_le (by omega)
 refine .sq fun K6 hK6=>?_
 refine .q ?_ (by simp (disch:=first|exact zd|fail) [h0,h7]; rfl)
 refine .c (fun h16=>?_) (fun h16=>?_)
 ·try simp only[dc]at h16
  have hi' : i < a.length:=by omega
  have ga:=da.gt (by omega) i
  have gb:=db.gt (by omega) i
  refine .skip ?_
  refine hK6 _ ?_
  refine .sq fun K8 hK8=>?_
  refine .block ?_
  refine .q ?_ (by simp (disch:=first|exact zd|fail) [if_pos,h0,h7,ld_ip agT223]; rfl)
  refine .q ?_ (by simp (disch:=first|exact zd|fail) [h6]; rfl)
  refine .sq fun K11 hK11=>?_
  have J11 : ∀ s : St,(s.env 0 = Wd .u32 a ∧ s.env 1 = Wd .u32 b ∧ s.env 5 = .osl id 0 i ∧ s.env 8 = .int .u64 (gt a i) ∧ s.env 9 = .int .u64 ((subR a b i).2 + gt b i) ∧ s.env 7 = .int .i64 (i : Int) ∧ s.heap id = some (1,wd .u32 (subR a b i).1) ∧ id < s.nx ∧ s.nt = 49) → K11 s:=by
   clear h0 h1 h5 h6 h7 hH hid
   rintro ⟨e,H,m,nt⟩ ⟨h0,h1,h5,h8,h9,h7,hH,hid,rfl⟩
   simp only [] at h0 h1 h5 h8 h9 h7 hH hid
   refine hK11 _ ?_
   refine .q ?_
   refine .sq fun K13 hK13=>?_
   have J13 : ∀ s : St,(∃ x : Int,x = (if gt a i < (subR a b i).2 + gt b i then gt a i + 4294967296 else gt a i) ∧ s.env 0 = Wd .u32 a ∧ s.env 1 = Wd .u32 b ∧ s.env 5 = .osl id 0 i ∧ s.env 8 = .int .u64 x ∧ s.env 9 = .int .u64 ((subR a b i).2 + gt b i) ∧ s.env 6 = .int .u64 (subR a b (i + 1)).2 ∧ s.env 7 = .int .i64 (i : Int) ∧ s.heap id = some (1,wd .u32 (subR a b i).1) ∧ id < s.nx ∧ s.nt = 49) → K13 s:=by
    clear h0 h1 h5 h7 h8 h9 hH hid
    rintro ⟨e,H,m,nt⟩ ⟨x,hx,h0,h1,h5,h8,h9,h6,h7,hH,hid,rfl⟩
    simp only [] at h0 h1 h5 h8 h9 h6 h7 hH hid
    have hxy : 0 ≤ x - ((subR a b i).2 + gt b i) ∧ x - ((subR a b i).2 + gt b i) < 4294967296 ∧ x - ((subR a b i).2 + gt b i) = (gt a i - ((subR a b i).2 + gt b i)) % 4294967296:=by
      rw [hx]; split <;> omega
    refine hK13 _ ?_
    refine .region ?_
    refine .k 6 ?_ (by simp (disch:=first|exact zd|fail) [List.take_succ_cons,List.take_zero,h5,h8,h9,hH,r1,Nat.ne_of_lt hid]; rfl)
    refine AOPS.opapp (by simp (disch:=first|exact zd|fail) [if_pos,wd_append,wd_take,wd_drop,List.nil_append,h5,h8,h9,hH,r1,Nat.ne_of_lt hid]; first | rfl | exact ⟨rfl,rfl⟩ | exact ⟨rfl,rfl,rfl⟩) (by simp) (by simp) ?_
    simp only [puts_some,hdrop]
    refine .e ?_ (by simp (disch:=first|exact zd|fail) [h5,h8,h9,hH,r1,Nat.ne_of_lt hid]; rfl)
    refine hK8 _ ?_
    refine .r ?_ (by simp (disch:=first|exact zd|fail) [h7]; rfl)
    refine ⟨a.length - (i + 1),by omega,i + 1,m + 1,rfl,by omega,by simp [h0],by simp [h1],by simp [r1],by simp [h6],by simp (disch:=omega) [h7],by simp [subR,ht,← hxy.2.2],by simp,rfl⟩
   refine .q ?_ (by simp (disch:=first|exact zd|fail) [h8,h9]; rfl)
   refine .c (fun h38=>?_) (fun h38=>?_)
   ·try simp only[dc]at h38
    refine .q ?_ (by simp (disch:=first|exact zd|fail) [h8]; rfl)
    refine .r ?_
    refine J13 _ ?_
    exact ⟨_,(if_pos h38).symm,by simp [h0],by simp [h1],by simp [h5],by simp,by simp [h9],by simp [subR,h38],by simp [h7],by simp [hH],by simpa using hid,rfl⟩
   ·try simp only[dc]at h38
    refine .skip ?_
    refine J13 _ ?_
    exact ⟨_,(if_neg h38).symm,by simp [h0],by simp [h1],by simp [h5],by simp [h8],by simp [h9],by simp [subR,h38],by simp [h7],by simp [hH],by simpa using hid,rfl⟩
  refine .q ?_ (by simp (disch:=first|exact zd|fail) [h1,h7]; rfl)
  refine .c (fun h28=>?_) (fun h28=>?_)
  ·try simp only[dc]at h28
   have hib : i < b.length:=by omega
   refine .r ?_ (by simp (disch:=first|exact zd|fail) [if_pos,h1,h7,ld_ip agT223]; rfl)
   refine J11 _ ?_
   exact ⟨by simp [h0],by simp [h1],by simp [h5],by simp,by simp,by simp [h7],by simp [hH],by simpa using hid,rfl⟩
  ·try simp only[dc]at h28
   refine .skip ?_
   refine J11 _ ?_
   exact ⟨by simp [h0],by simp [h1],by simp [h5],by simp,by simp [gt_ge (show b.length ≤ i by omega)],by simp [h7],by simp [hH],by simpa using hid,rfl⟩
 ·try simp only[dc]at h16
  obtain rfl : i = a.length:=by omega
  refine .exit ?_
  refine hK4 _ ?_
  refine .q ?_ (by simp (disch:=first|exact zd|fail) [h5]; rfl)
  refine .ret ?_
  exact hK _ _ _ _ trivial (((Fin.mk (r:=.osl id 0 a.length) (by simp [aRes,aResL,aRes1])).freeze (id:=id) (z:=1) (es:=wd .u32 (subS a b)) (by simp [hH,subS])).cast (fz_wd (by simp [subS,r1])))

end Go.Proofs.YtjbbbkfdcegfmaaGreat

/- Walks: the reference's sums of signed numbers. -/
namespace Go.Proofs.YtjbbbkfdcegfmaaGreat
open Go Go.RowKit
set_option linter.unusedSimpArgs false
set_option linter.unusedVariables false
set_option maxRecDepth 100000
attribute [local simp] szT2 byT2 agT2 unT2 zoT2 szT3 byT3 agT3 unT3 zoT3 szT4 byT4 agT4 unT4 zoT4 szT52 byT52 agT52 unT52 zoT52 szT103 byT103 agT103 elT103 unT103 zoT103 szT105 byT105 agT105 flT105 fdT105_0 fdT105_1 zoT105 szT223 byT223 agT223 unT223 zoT223 srT103 ixT103 lnT103

theorem addS_len {j k : Nat} {a b : Int} (ha : Bg j a) (hb : Bg k b) : (addS (dg a) (dg b)).length ≤ 2 * j + 2 * k + 1:=by
  have:=(addS_spec (dg_dig a) (dg_dig b)).2.1
  have:=ha.len32
  have:=hb.len32
  omega
theorem dg_le {a b : Int} (h : b.natAbs ≤ a.natAbs) : (dg b).length ≤ (dg a).length:=by
  rcases Nat.lt_or_ge (dg a).length (dg b).length with h1 | h1
  · have:=can_len_lt (B:=4294967296) (by omega) (dg_dig a) (dg_dig b) (dg_can b) h1
    rw [dg_val,dg_val] at this; omega
  · exact h1
theorem addS_dg (a b : Int) : Dig 4294967296 (addS (dg a) (dg b)) ∧ val 4294967296 (addS (dg a) (dg b)) = (a.natAbs : Int) + b.natAbs:=by
  have:=addS_spec (dg_dig a) (dg_dig b)
  rw [dg_val,dg_val] at this
  exact ⟨this.1,this.2.2⟩
theorem subS_dg {a b : Int} (h : b.natAbs ≤ a.natAbs) : Dig 4294967296 (subS (dg a) (dg b)) ∧ (subS (dg a) (dg b)).length = (dg a).length ∧ val 4294967296 (subS (dg a) (dg b)) = (a.natAbs : Int) - b.natAbs:=by
  have:=subS_spec (dg_dig a) (dg_dig b) (dg_le h) (by rw [dg_val,dg_val]; omega)
  rw [dg_val,dg_val] at this
  exact this

section
attribute [local simp] idf_numS cells_numS numS_fold
theorem l1Sign_fc (z : Int) : FC Tryz.prog 131 [numS z] (.int .i64 (if z < 0 then -1 else if z > 0 then 1 else 0)):=by
 refine .b Tryz.func131 9 (fun nx K hK=>?_)
 refine .q ?_
 refine .sq fun K2 hK2=>?_
 refine .q ?_
 refine .c (fun h6=>?_) (fun h6=>?_)
 ·try simp only[dc]at h6
  have h0 : z = 0:=by simp at h6; exact dg_nil.mp h6
  refine .q ?_
  refine .ret ?_
  exact hK _ _ _ _ trivial (Fin.mk (by simp [aRes,aResL,aRes1,h0]))
 ·try simp only[dc]at h6
  have h0 : z ≠ 0:=by simp at h6; exact fun e=>h6 (dg_nil.mpr e)
  refine .skip ?_
  refine hK2 _ ?_
  refine .sq fun K5 hK5=>?_
  refine .q ?_
  refine .c (fun h8=>?_) (fun h8=>?_)
  ·try simp only[dc]at h8
   refine .q ?_
   refine .ret ?_
   exact hK _ _ _ _ trivial (Fin.mk (by simp [aRes,aResL,aRes1,h8]))
  ·try simp only[dc]at h8
   have h1 : z > 0:=by omega
   refine .skip ?_
   refine hK5 _ ?_
   refine .q ?_
   refine .ret ?_
   exact hK _ _ _ _ trivial (Fin.mk (by simp [aRes,aResL,aRes1,h8,h1]))
theorem l1Neg_fc (z : Int) : FC Tryz.prog 221 [numS z] (numS (-z)):=by
 refine .b Tryz.func221 14 (fun nx K hK=>?_)
 refine .q ?_
 refine .sq fun K2 hK2=>?_
 refine .q ?_
 refine .c (fun h6=>?_) (fun h6=>?_)
 ·try simp only[dc]at h6
  have h0 : z = 0:=by simp at h6; exact dg_nil.mp h6
  refine .q ?_
  refine .ret ?_
  exact hK _ _ _ _ trivial ((Fin.mk (r:=numS z) (by simp [aRes,aResL,aRes1])).cast (by rw [h0]; rfl))
 ·try simp only[dc]at h6
  have h0 : z ≠ 0:=by simp at h6; exact fun e=>h6 (dg_nil.mpr e)
  refine .skip ?_
  refine hK2 _ ?_
  refine .q ?_
  refine .ret ?_
  exact hK _ _ _ _ trivial ((Fin.mk (r:=.agg [.bool (!decide (z < 0)),Wd .u32 (dg z)]) (by simp [aRes,aResL,aRes1])).cast (by unfold numS; rw [dg_neg]; congr 2; congr 1; rw [← decide_not,decide_eq_decide]; omega))
theorem l1Add_fc {j k : Nat} {a b : Int} (ha : Bg j a) (hb : Bg k b) (hj : j ≤ 68719476736) (hk : k ≤ 68719476736) : FC Tryz.prog 167 [numS a,numS b] (numS (a + b)):=by
 have la:=ha.len32
 have lb:=hb.len32
 have lab:=addS_len ha hb
 have hab:=addS_dg a b
 refine .b Tryz.func167 40 (fun nx K hK=>?_)
 refine .q ?_
 refine .sq fun K2 hK2=>?_
 refine .q ?_
 refine .c (fun h9=>?_) (fun h9=>?_)
 ·try simp only[dc]at h9
  have hs : (a < 0 ↔ b < 0):=by simpa using h9
  refine .sq fun K4 hK4=>?_
  refine .d 8 ?_
  refine .k 6 (fun fs5 hfs5=>?_)
  refine .f (l1AddAbs_fc (dg a) (dg b) (by omega) (by omega) (dg_dig a) (dg_dig b)) hb222 ?_
  refine .f (l1Trim_fc (decide (a < 0)) (addS (dg a) (dg b)) (by omega) hab.1) hb176 ?_
  refine .r 8 (by simp only[ln,hfs5];omega) ?_
  refine hK4 _ ?_
  refine .ret ?_
  exact hK _ _ _ _ trivial ((Fin.mk (r:=numS (sg (decide (a < 0)) (val 4294967296 (addS (dg a) (dg b))))) (by simp [aRes,aResL,aRes1])).cast (by congr 1; rw [hab.2]; unfold sg; split <;> simp at * <;> omega))
 ·try simp only[dc]at h9
  have hs : ¬ (a < 0 ↔ b < 0):=by simpa using h9
  refine .skip ?_
  refine hK2 _ ?_
  refine .sq fun K6 hK6=>?_
  refine .sq fun K7 hK7=>?_
  refine .region ?_
  refine .kf 4 (l1CmpAbs_fc (dg a) (dg b) (by omega) (by omega)) hb170 ?_
  refine .e ?_
  refine hK7 _ ?_
  refine .c (fun h23=>?_) (fun h23=>?_)
  ·try simp only[dc]at h23
   have hc : b.natAbs ≤ a.natAbs:=by
     have:=cmpS_dg a b; omega
   have hsu:=subS_dg hc
   refine .sq fun K8 hK8=>?_
   refine .d 8 ?_
   refine .k 6 (fun fs9 hfs9=>?_)
   refine .f (l1SubAbs_fc (dg a) (dg b) (by omega) (dg_dig a) (dg_dig b)) hb172 ?_
   refine .f (l1Trim_fc (decide (a < 0)) (subS (dg a) (dg b)) (by omega) hsu.1) hb176 ?_
   refine .r 8 (by simp only[ln,hfs9];omega) ?_
   refine hK8 _ ?_
   refine .ret ?_
   exact hK _ _ _ _ trivial ((Fin.mk (r:=numS (sg (decide (a < 0)) (val 4294967296 (subS (dg a) (dg b))))) (by simp [aRes,aResL,aRes1])).cast (by congr 1; rw [hsu.2.2]; unfold sg; split <;> simp at * <;> omega))
  ·try simp only[dc]at h23
   have hc : a.natAbs ≤ b.natAbs:=by
     have:=cmpS_dg a b; omega
   have hsu:=subS_dg hc
   refine .skip ?_
   refine hK6 _ ?_
   refine .sq fun K10 hK10=>?_
   refine .d 8 ?_
   refine .k 6 (fun fs11 hfs11=>?_)
   refine .f (l1SubAbs_fc (dg b) (dg a) (by omega) (dg_dig b) (dg_dig a)) hb172 ?_
   refine .f (l1Trim_fc (decide (b < 0)) (subS (dg b) (dg a)) (by omega) hsu.1) hb176 ?_
   refine .r 8 (by simp only[ln,hfs11];omega) ?_
   refine hK10 _ ?_
   refine .ret ?_
   exact hK _ _ _ _ trivial ((Fin.mk (r:=numS (sg (decide (b < 0)) (val 4294967296 (subS (dg b) (dg a))))) (by simp [aRes,aResL,aRes1])).cast (by congr 1; rw [hsu.2.2]; unfold sg; split <;> simp at * <;> omega))
theorem l1Sub_fc {j k : Nat} {a b : Int} (ha : Bg j a) (hb : Bg k b) (hj : j ≤ 68719476736) (hk : k ≤ 68719476736) : FC Tryz.prog 166 [numS a,numS b] (numS (a - b)):=by
 refine .b Tryz.func166 9 (fun nx K hK=>?_)
 refine .q ?_
 refine .sq fun K2 hK2=>?_
 refine .d 4 ?_
 refine .k 2 (fun fs3 hfs3=>?_)
 refine .f (l1Neg_fc b) hb221 ?_
 refine .f (l1Add_fc ha hb.neg hj hk) hb167 ?_
 refine .r 4 (by simp only[ln,hfs3];omega) ?_
 refine hK2 _ ?_
 refine .ret ?_
 exact hK _ _ _ _ trivial ((Fin.mk (r:=numS (a + -b)) (by simp [aRes,aResL,aRes1])).cast rfl)
theorem l1Cmp_fc {j k : Nat} {a b : Int} (ha : Bg j a) (hb : Bg k b) (hj : j ≤ 68719476736) (hk : k ≤ 68719476736) : FC Tryz.prog 132 [numS a,numS b] (.int .i64 (if a < b then -1 else if a > b then 1 else 0)):=by
 refine .b Tryz.func132 9 (fun nx K hK=>?_)
 refine .q ?_
 refine .sq fun K2 hK2=>?_
 refine .region ?_
 refine .kf 2 (l1Sub_fc ha hb hj hk) hb166 ?_
 refine .f (l1Sign_fc (a - b)) hb131 ?_
 refine .e ?_
 refine hK2 _ ?_
 refine .ret ?_
 exact hK _ _ _ _ trivial ((Fin.m).cast (by congr 1; split <;> split <;> simp at * <;> first | rfl | omega | (split <;> first | rfl | omega)))
theorem l1Int_fc (n : Int) (h1 : -9223372036854775808 ≤ n) (h2 : n ≤ 9223372036854775807) : FC Tryz.prog 134 [.int .i64 n] (numS n):=by
 refine .b Tryz.func134 19 (fun nx K hK=>?_)
 refine .q ?_
 refine .q ?_
 refine .sq fun K3 hK3=>?_
 have J3 : ∀ s : St,(s.env 0 = .int .i64 n ∧ s.env 2 = .ptr nx 0 0 ∧ s.env 3 = .int .u64 (n.natAbs : Int) ∧ s.heap = hupd (fun _=>none) nx (some (2,[[.bool false,.nsl]])) ∧ s.nx = nx + 1 ∧ s.nt = 19) → K3 s:=by
  rintro ⟨e,H,m,nt⟩ ⟨h0,hp,h3,rfl,rfl,rfl⟩
  simp only [] at h0 hp h3
  generalize hm : n.natAbs = u at *
  have hw1 : IntKind.u32.wrap (u : Int) = (u : Int) % 4294967296:=wrap_u32m _
  refine hK3 _ ?_
  refine .sq fun K4 hK4=>?_
  refine .region ?_
  refine .k 8 ?_ (by simp (disch:=first|exact zd|fail) [List.take_succ_cons,List.take_zero,h0,hp,h3,hw1,IntKind.bits,Int.fdiv_eq_ediv_of_nonneg]; rfl)
  refine AOPS.frz1 17 (nx + 1) 1 (wd .u32 [(u : Int) % 4294967296,(u : Int) / 4294967296]) (Wd .u32 [(u : Int) % 4294967296,(u : Int) / 4294967296]) (by simp) (by simp; first | exact fz_wd rfl | exact isl_take_wd (by simp)) ?_
  refine .f (l1Trim_fc (decide (n < 0)) [(u : Int) % 4294967296,(u : Int) / 4294967296] (by simp) (Dig.cons (by omega) (by omega) (Dig.cons (by omega) (by omega) (Dig.nil _)))) hb176 ?_ (ha:=by simp (disch:=first|exact zd|fail) [idf_Wd',h0,hp,h3,hw1,IntKind.bits,Int.fdiv_eq_ediv_of_nonneg])
  refine .e ?_ (by simp (disch:=first|exact zd|fail) [h0,hp,h3,hw1,IntKind.bits,Int.fdiv_eq_ediv_of_nonneg]; rfl)
  refine hK4 _ ?_
  refine .ret ?_
  exact hK _ _ _ _ trivial ((Fin.mk (r:=numS (sg (decide (n < 0)) (val 4294967296 [(u : Int) % 4294967296,(u : Int) / 4294967296]))) (by simp [aRes,aResL,aRes1,hp])).cast (by congr 1; simp only [val]; unfold sg; split <;> simp at * <;> omega))
 refine .q ?_
 refine .c (fun h7=>?_) (fun h7=>?_)
 ·try simp only[dc]at h7
  refine .r ?_ (by simp (disch:=first|exact zd|fail) [wrap_u64m]; rfl)
  refine J3 _ ?_
  refine ⟨by simp,by simp,?_,by simp,rfl,rfl⟩
  simp [wrap_u64m]; omega
 ·try simp only[dc]at h7
  refine .skip ?_
  refine J3 _ ?_
  refine ⟨by simp,by simp,?_,by simp,rfl,rfl⟩
  simp [wrap_u64m]; omega
end

end Go.Proofs.YtjbbbkfdcegfmaaGreat

/- Walks: the reference's products. -/
namespace Go.Proofs.YtjbbbkfdcegfmaaGreat
open Go Go.RowKit
set_option linter.unusedSimpArgs false
set_option linter.unusedVariables false
set_option maxRecDepth 100000
attribute [local simp] szT2 byT2 agT2 unT2 zoT2 szT3 byT3 agT3 unT3 zoT3 szT4 byT4 agT4 unT4 zoT4 szT52 byT52 agT52 unT52 zoT52 szT103 byT103 agT103 elT103 unT103 zoT103 szT105 byT105 agT105 flT105 fdT105_0 fdT105_1 zoT105 szT223 byT223 agT223 unT223 zoT223 srT103 ixT103 lnT103

/-- The variables of 'l1Mul'. -/
def heapS (nx : Nat) (a b : Int) : Heap:=hupd (hupd (hupd (fun _=>none) nx (some (2,[[.bool (decide (a < 0)),Wd .u32 (dg a)]]))) (nx + 1) (some (2,[[.bool (decide (b < 0)),Wd .u32 (dg b)]]))) (nx + 1 + 1) (some (2,[[.bool false,.nsl]]))
theorem mul_step32 {x y o c : Int} (hx : 0 ≤ x ∧ x < 4294967296) (hy : 0 ≤ y ∧ y < 4294967296) (ho : 0 ≤ o ∧ o < 4294967296) (hc : 0 ≤ c ∧ c < 4294967296) :
    0 ≤ x * y ∧ x * y ≤ 18446744065119617025 ∧ 0 ≤ (c + x * y + o) / 4294967296 ∧ (c + x * y + o) / 4294967296 < 4294967296 ∧ (c + x * y + o) % 4294967296 + 4294967296 * ((c + x * y + o) / 4294967296) = x * y + o + c:=by
  have h:=prod_bound x y hx.1 (by omega) hy.1 (by omega)
  generalize x * y = p at *
  omega
theorem sg_mulS (a b : Int) : numS (sg (!(decide (a < 0) == decide (b < 0))) ((a.natAbs : Int) * (b.natAbs : Int))) = numS (a * b):=by
  congr 1
  rw [← Int.natCast_mul,← Int.natAbs_mul]
  by_cases ha : a < 0 <;> by_cases hb : b < 0
  · have:=Int.mul_nonneg (show 0 ≤ -a by omega) (show 0 ≤ -b by omega)
    rw [Int.neg_mul_neg] at this
    simp [sg,ha,hb]; omega
  · have:=Int.mul_nonneg (show 0 ≤ -a by omega) (show 0 ≤ b by omega)
    rw [Int.neg_mul] at this
    simp [sg,ha,hb]; omega
  · have:=Int.mul_nonneg (show 0 ≤ a by omega) (show 0 ≤ -b by omega)
    rw [Int.mul_neg] at this
    simp [sg,ha,hb]; omega
  · have:=Int.mul_nonneg (show 0 ≤ a by omega) (show 0 ≤ b by omega)
    simp [sg,ha,hb]; omega

section
attribute [local simp] idf_numS cells_numS numS_fold
set_option maxHeartbeats 1000000 in
theorem l1Mul_fc {j k : Nat} {a b : Int} (ha : Bg j a) (hb : Bg k b) (hj : j ≤ 68719476736) (hk : k ≤ 68719476736) : FC Tryz.prog 165 [numS a,numS b] (numS (a * b)):=by
 have la : (dg a).length ≤ 137438953472:=by have:=ha.len32; omega
 have lb : (dg b).length ≤ 137438953472:=by have:=hb.len32; omega
 have da:=dg_dig a
 have db:=dg_dig b
 refine .b Tryz.func165 90 (fun nx K hK=>?_)
 refine .q ?_
 refine .sq fun K2 hK2=>?_
 refine .sq fun K3 hK3=>?_
 by_cases ha0 : dg a = []
 ·refine .r ?_ (by simp (disch:=first|exact zd|fail) [ha0]; rfl)
  refine hK3 _ ?_
  refine .c (fun h18=>?_) (fun h18=>?_)
  ·try simp only[dc]at h18
   refine .q ?_
   refine .ret ?_
   exact hK _ _ _ _ trivial ((Fin.mk (r:=.agg [.bool false,.nsl]) (by simp [aRes,aResL,aRes1])).weak (by rw [dg_nil.mp ha0,Int.zero_mul]; exact fun _ _ _ _=>nS0_weak))
  ·simp at h18
 ·have ea : (((dg a).length : Int) == 0) = false:=beq_eq_false_iff_ne.mpr (by have:=List.length_pos_iff.mpr ha0; omega)
  by_cases hb0 : dg b = []
  ·refine .r ?_ (by simp (disch:=first|exact zd|fail) [ea,hb0]; rfl)
   refine hK3 _ ?_
   refine .c (fun h18=>?_) (fun h18=>?_)
   ·try simp only[dc]at h18
    refine .q ?_
    refine .ret ?_
    exact hK _ _ _ _ trivial ((Fin.mk (r:=.agg [.bool false,.nsl]) (by simp [aRes,aResL,aRes1])).weak (by rw [dg_nil.mp hb0,Int.mul_zero]; exact fun _ _ _ _=>nS0_weak))
   ·simp at h18
  ·have eb : (((dg b).length : Int) == 0) = false:=beq_eq_false_iff_ne.mpr (by have:=List.length_pos_iff.mpr hb0; omega)
   refine .r ?_ (by simp (disch:=first|exact zd|fail) [ea,eb]; rfl)
   refine hK3 _ ?_
   refine .c (fun h18=>?_) (fun h18=>?_)
   ·simp at h18
   ·try simp only[dc]at h18
    refine .skip ?_
    refine hK2 _ ?_
    refine .q ?_ (by simp (disch:=first|exact zd|fail) [if_pos]; rfl)
    refine .sq fun K7 hK7=>?_
    refine .q ?_
    refine .block ?_
    refine .loop (fun n s=>∃ i out,n = (dg a).length - i ∧ i ≤ (dg a).length ∧ out.length = (dg a).length + (dg b).length ∧ Dig 4294967296 out ∧ val 4294967296 out = val 4294967296 ((dg a).take i) * val 4294967296 (dg b) ∧ (∀ q,i + (dg b).length ≤ q → gt out q = 0) ∧ s.env 2 = .ptr nx 0 0 ∧ s.env 3 = .ptr (nx + 1) 0 0 ∧ s.env 4 = .ptr (nx + 1 + 1) 0 0 ∧ s.env 5 = .osl (nx + 1 + 1 + 1) 0 ((dg a).length + (dg b).length) ∧ s.env 6 = .int .i64 (i : Int) ∧ s.heap = hupd (heapS nx a b) (nx + 1 + 1 + 1) (some (1,wd .u32 out)) ∧ s.nt = 90) ((dg a).length) (⟨0,List.replicate ((dg a).length + (dg b).length) 0,by omega,by omega,by simp,Dig.replicate _ (by omega) (by omega),by simp [val,val_replicate],by intro q _; simp [gt,List.getElem?_replicate]; split <;> rfl,by simp,by simp,by simp,by simp; omega,by simp,by simp [heapS]; rfl,rfl⟩) ?_
    rintro n ⟨e,H,nx2,nt⟩ ⟨i,out,rfl,hi,ho,hd,hval,hz,h2,h3,h4,h5,h6,rfl,rfl⟩
    simp only [] at h2 h3 h4 h5 h6
    refine .sq fun K9 hK9=>?_
    refine .q ?_ (by simp (disch:=first|exact zd|fail) [h2,h6,heapS]; rfl)
    refine .c (fun h32=>?_) (fun h32=>?_)
    ·try simp only[dc]at h32
     have hi' : i < (dg a).length:=by omega
     refine .skip ?_
     refine hK9 _ ?_
     refine .sq fun K11 hK11=>?_
     refine .block ?_
     refine .q ?_
     refine .sq fun K13 hK13=>?_
     refine .q ?_
     refine .block ?_
     refine .loop (fun n s=>∃ q out2 c,n = (dg b).length - q ∧ q ≤ (dg b).length ∧ out2.length = (dg a).length + (dg b).length ∧ Dig 4294967296 out2 ∧ 0 ≤ c ∧ c < 4294967296 ∧ val 4294967296 out2 + c * (4294967296 : Int) ^ (i + q) = val 4294967296 ((dg a).take i) * val 4294967296 (dg b) + (4294967296 : Int) ^ i * gt (dg a) i * val 4294967296 ((dg b).take q) ∧ (∀ j,i + (dg b).length ≤ j → gt out2 j = 0) ∧ s.env 2 = .ptr nx 0 0 ∧ s.env 3 = .ptr (nx + 1) 0 0 ∧ s.env 4 = .ptr (nx + 1 + 1) 0 0 ∧ s.env 5 = .osl (nx + 1 + 1 + 1) 0 ((dg a).length + (dg b).length) ∧ s.env 6 = .int .i64 (i : Int) ∧ s.env 7 = .int .u64 c ∧ s.env 8 = .int .i64 (q : Int) ∧ s.heap = hupd (heapS nx a b) (nx + 1 + 1 + 1) (some (1,wd .u32 out2)) ∧ s.nt = 90) ((dg b).length) (⟨0,out,0,by omega,by omega,ho,hd,by omega,by omega,by simp [val,hval],hz,by simp [h2],by simp [h3],by simp [h4],by simp [h5],by simp [h6],by simp,by simp,by simp [heapS],rfl⟩) ?_
     clear h2 h3 h4 h5 h6
     rintro n ⟨e,H,nx2,nt⟩ ⟨q,out2,c,rfl,hq,ho2,hd2,hc0,hc1,hval2,hz2,h2,h3,h4,h5,h6,h7,h8,rfl,rfl⟩
     simp only [] at h2 h3 h4 h5 h6 h7 h8
     refine .sq fun K15 hK15=>?_
     refine .q ?_ (by simp (disch:=first|exact zd|fail) [h3,h8,heapS]; rfl)
     refine .c (fun h39=>?_) (fun h39=>?_)
     ·try simp only[dc]at h39
      have hq' : q < (dg b).length:=by omega
      have hgx:=da.gt (by omega) i
      have hgy:=db.gt (by omega) q
      have hgo:=hd2.gt (by omega) (i + q)
      have hms:=mul_step32 hgx hgy hgo ⟨hc0,hc1⟩
      have hpr0:=hms.1
      have hpr1:=hms.2.1
      have hiq : ((i : Int) + (q : Int)).toNat = i + q:=by omega
      refine .skip ?_
      refine hK15 _ ?_
      refine .sq fun K17 hK17=>?_
      refine .block ?_
      refine .sq fun K18 hK18=>?_
      refine .df 23 ?_ (by simp (disch:=first|exact zd|fail) [if_pos,h2,h3,h5,h6,h7,h8,heapS,hiq,ho2,ld_ip agT223]; rfl)
      refine hK18 _ ?_
      refine .q ?_ (by simp (disch:=first|exact zd|fail) [if_pos,h5,h6,h8,heapS,hiq,ho2,wrap_u32m]; rfl)
      refine .r ?_ (by simp (disch:=first|exact zd|fail) [IntKind.bits,Int.fdiv_eq_ediv_of_nonneg]; rfl)
      refine hK17 _ ?_
      refine .r ?_ (by simp (disch:=first|exact zd|fail) [h8]; rfl)
      have hp1 : (4294967296 : Int) ^ (i + (q + 1)) = (4294967296 : Int) ^ i * (4294967296 : Int) ^ q * 4294967296:=by rw [← Nat.add_assoc,Int.pow_succ,Int.pow_add]
      have hp2 : (4294967296 : Int) ^ (i + q) = (4294967296 : Int) ^ i * (4294967296 : Int) ^ q:=Int.pow_add _ _ _
      refine ⟨(dg b).length - (q + 1),by omega,q + 1,out2.set (i + q) ((c + gt (dg a) i * gt (dg b) q + gt out2 (i + q)) % 4294967296),(c + gt (dg a) i * gt (dg b) q + gt out2 (i + q)) / 4294967296,rfl,by omega,by simp [ho2],hd2.set _ (Int.emod_nonneg _ (by omega)) (Int.emod_lt_of_pos _ (by omega)),hms.2.2.1,hms.2.2.2.1,?_,fun j hj=>by rw [gt_set_ne (by omega)]; exact hz2 j (by omega),by simp [h2],by simp [h3],by simp [h4],by simp [h5],by simp [h6],by simp,by simp (disch:=omega) [h8],by simp [heapS],rfl⟩
      rw [val_setC (by omega),val_take32,hp1]
      rw [hp2] at hval2 ⊢
      have:=hms.2.2.2.2
      grind
     ·try simp only[dc]at h39
      obtain rfl : q = (dg b).length:=by omega
      refine .exit ?_
      refine hK13 _ ?_
      have hil : ((i : Int) + ((dg b).length : Int)).toNat = i + (dg b).length:=by omega
      refine .r ?_ (by simp (disch:=first|exact zd|fail) [if_pos,h3,h5,h6,h7,heapS,ho2,hil]; rfl)
      refine hK11 _ ?_
      refine .r ?_ (by simp (disch:=first|exact zd|fail) [h6]; rfl)
      have hpw : (4294967296 : Int) ^ (i + (dg b).length) = (4294967296 : Int) ^ i * (4294967296 : Int) ^ (dg b).length:=Int.pow_add _ _ _
      refine ⟨(dg a).length - (i + 1),by omega,i + 1,out2.set (i + (dg b).length) c,rfl,by omega,by simp [ho2],hd2.set _ hc0 hc1,?_,fun j hj=>by rw [gt_set_ne (by omega)]; exact hz2 j (by omega),by simp [h2],by simp [h3],by simp [h4],by simp [h5],by simp (disch:=omega) [h6],by simp [heapS],rfl⟩
      rw [val_take_all (Nat.le_refl _)] at hval2
      rw [val_setC (by omega),hz2 _ (Nat.le_refl _),val_take32]
      grind
    ·try simp only[dc]at h32
     obtain rfl : i = (dg a).length:=by omega
     refine .exit ?_
     refine hK7 _ ?_
     refine .sq fun K20 hK20=>?_
     refine .region ?_
     refine .k 6 ?_ (by simp (disch:=first|exact zd|fail) [List.take_succ_cons,List.take_zero,h2,h3,h4,h5,heapS]; rfl)
     refine AOPS.frz1 88 (nx + 1 + 1 + 1) 1 (wd .u32 out) (Wd .u32 out) (by simp) (by simp; first | exact fz_wd (by omega) | exact isl_take_wd (by omega)) ?_
     refine .f (l1Trim_fc (!(decide (a < 0) == decide (b < 0))) out (by omega) hd) hb176 ?_ (ha:=by simp (disch:=first|exact zd|fail) [idf_Wd',h2,h3,h4,h5,heapS])
     refine .e ?_ (by simp (disch:=first|exact zd|fail) [h2,h3,h4,h5,heapS]; rfl)
     refine hK20 _ ?_
     refine .ret ?_
     exact hK _ _ _ _ trivial ((Fin.mk (r:=numS (sg (!(decide (a < 0) == decide (b < 0))) (val 4294967296 out))) (by simp [aRes,aResL,aRes1,h4])).cast (by rw [hval,val_take_all (Nat.le_refl _),dg_val,dg_val,sg_mulS]))
end
theorem l1Bits_fc {k : Nat} {z : Int} (hz : Bg k z) (hk : k ≤ 68719476736) : FC Tryz.prog 169 [Wd .u32 (dg z)] (.int .i64 (bitLen z.natAbs : Int)):=by
 have lz : (dg z).length ≤ 137438953472:=by have:=hz.len32; omega
 refine .b Tryz.func169 25 (fun nx K hK=>?_)
 refine .q ?_
 refine .sq fun K2 hK2=>?_
 refine .q ?_
 refine .c (fun h7=>?_) (fun h7=>?_)
 ·try simp only[dc]at h7
  have h0 : z = 0:=by simp at h7; exact dg_nil.mp h7
  refine .q ?_
  refine .ret ?_
  exact hK _ _ _ _ trivial (Fin.mk (by simp [aRes,aResL,aRes1,h0,bitLen]))
 ·try simp only[dc]at h7
  have h0 : 0 < (dg z).length:=by simp at h7; exact List.length_pos_iff.mpr h7
  have hg:=(dg_dig z).gt (by omega) ((dg z).length - 1)
  obtain ⟨q,hq⟩ : ∃ q : Nat,gt (dg z) ((dg z).length - 1) = (q : Int):=⟨_,(Int.toNat_of_nonneg hg.1).symm⟩
  have hs:=bitLen_topS z q h0 hq
  have he : (((dg z).length : Int) - 1).toNat = (dg z).length - 1:=by omega
  refine .skip ?_
  refine hK2 _ ?_
  refine .q ?_
  refine .q ?_ (by simp (disch:=first|exact zd|fail) [if_pos,he,hq,ld_ip agT223]; rfl)
  refine .sq fun K7 hK7=>?_
  refine .block ?_
  refine .loop (fun n s=>∃ m : Nat,n = m ∧ m ≤ q ∧ s.env 3 = .int .i64 ((bitLen z.natAbs : Int) - bitLen m) ∧ s.env 4 = .int .u32 (m : Int) ∧ s.heap = (fun _=>none) ∧ s.nt = 25) (q) (⟨q,rfl,Nat.le_refl _,by simp (disch:=omega); omega,by simp,rfl,rfl⟩) ?_
  rintro n ⟨e,H,nx2,nt⟩ ⟨m,rfl,hm,h3,h4,rfl,rfl⟩
  simp only [] at h3 h4
  have hb32 : bitLen q ≤ 32:=bitLen_le.mpr (by show q < 4294967296; omega)
  have hbm : bitLen n ≤ 32:=bitLen_le.mpr (by show n < 4294967296; omega)
  refine .sq fun K8 hK8=>?_
  refine .q ?_ (by simp (disch:=first|exact zd|fail) [h4]; rfl)
  refine .c (fun h19=>?_) (fun h19=>?_)
  ·try simp only[dc]at h19
   have hh:=bitLen_half (show n ≠ 0 by omega)
   refine .skip ?_
   refine hK8 _ ?_
   refine .block ?_
   refine .q ?_ (by simp (disch:=first|exact zd|fail) [h3]; rfl)
   refine .r ?_ (by simp (disch:=first|exact zd|fail) [h4,IntKind.bits,Int.fdiv_eq_ediv_of_nonneg]; rfl)
   exact ⟨n / 2,by omega,n / 2,rfl,by omega,by simp (disch:=omega); omega,by simp,rfl,rfl⟩
  ·try simp only[dc]at h19
   obtain rfl : n = 0:=by omega
   refine .exit ?_
   refine hK7 _ ?_
   refine .q ?_ (by simp (disch:=first|exact zd|fail) [h3]; rfl)
   refine .ret ?_
   exact hK _ _ _ _ trivial (Fin.mk (by simp [aRes,aResL,aRes1,bitLen]))

end Go.Proofs.YtjbbbkfdcegfmaaGreat
