/- Walks: edges compared and sorted. -/
import Derived.Test.YtjbbbkfdcegfmaaGreatG10
import Derived.Test.YtjbbbkfdcegfmaaGreatG18

namespace Go.Proofs.YtjbbbkfdcegfmaaGreat
open Go Go.RowKit
set_option linter.unusedSimpArgs false
set_option linter.unusedVariables false
set_option maxRecDepth 100000
attribute [local simp] szT2 byT2 agT2 unT2 zoT2 szT3 byT3 agT3 unT3 zoT3 szT24 byT24 agT24 elT24 unT24 zoT24 szT81 byT81 agT81 flT81 fdT81_0 fdT81_1 fdT81_2 zoT81 szT175 byT175 agT175 elT175 unT175 zoT175 srT24 ixT24 lnT24 srT175 ixT175 lnT175

def eAV (a b : Int) (v : Value) : AV:=.agg [.int .i64 a,.int .i64 b,.raw v]

theorem isNaN_fc (x : Int) : FC Tryz.prog 164 [.int .i64 x] (.bool false):=by
 refine .b Tryz.func164 6 (fun nx K hK=>?_)
 refine .q ?_
 refine .q ?_ (by simp (disch:=first|exact zd|fail) [bne]; rfl)
 refine .ret ?_
 exact hK _ _ _ _ trivial ((Fin.m).cast (by rfl))
theorem compareI_fc (x y : Int) : FC Tryz.prog 109 [.int .i64 x,.int .i64 y] (.int .i64 (cmI x y)):=by
 refine .b Tryz.func109 20 (fun nx K hK=>?_)
 refine .q ?_
 refine .sq fun K2 hK2=>?_
 refine .region ?_
 refine .kf 1 (isNaN_fc x) hb164 ?_
 refine .e ?_
 refine hK2 _ ?_
 refine .sq fun K3 hK3=>?_
 refine .region ?_
 refine .kf 1 (isNaN_fc y) hb164 ?_
 refine .e ?_
 refine hK3 _ ?_
 refine .sq fun K4 hK4=>?_
 refine .q ?_
 refine .c (fun h11=>?_) (fun h11=>?_)
 ·simp at h11
 ·try simp only[dc]at h11
  refine .skip ?_
  refine hK4 _ ?_
  refine .sq fun K6 hK6=>?_
  refine .q ?_
  refine .c (fun h13=>?_) (fun h13=>?_)
  ·simp at h13
  ·try simp only[dc]at h13
   refine .skip ?_
   refine hK6 _ ?_
   refine .sq fun K8 hK8=>?_
   refine .q ?_
   refine .c (t:=decide (x < y)) (fun h16=>?_) (fun h16=>?_)
   ·try simp only[dc]at h16
    refine .q ?_
    refine .ret ?_
    exact hK _ _ _ _ trivial ((Fin.m).cast (by unfold cmI; rw [if_pos h16]))
   ·try simp only[dc]at h16
    refine .skip ?_
    refine hK8 _ ?_
    refine .sq fun K11 hK11=>?_
    refine .q ?_
    refine .c (t:=decide (y < x)) (fun h19=>?_) (fun h19=>?_)
    ·try simp only[dc]at h19
     refine .q ?_
     refine .ret ?_
     exact hK _ _ _ _ trivial ((Fin.m).cast (by unfold cmI; rw [if_neg h16,if_pos h19]))
    ·try simp only[dc]at h19
     refine .skip ?_
     refine hK11 _ ?_
     refine .q ?_
     refine .ret ?_
     exact hK _ _ _ _ trivial ((Fin.m).cast (by unfold cmI; rw [if_neg h16,if_neg h19]))
section
attribute [local simp] eAV
set_option maxHeartbeats 2000000 in
theorem planC_fc (a b c d : Int) (u v : Value) (hu : ∃ p n k,u = .slice p n k) (hv : ∃ p n k,v = .slice p n k) : FC Tryz.prog 107 [eAV a b u,eAV c d v] (.int .i64 (cmK (a,b) (c,d))):=by
 obtain ⟨p1,n1,k1,rfl⟩:=hu
 obtain ⟨p2,n2,k2,rfl⟩:=hv
 refine .b Tryz.func107 17 (fun nx K hK=>?_) (hi:=by simp [idfL,idf,idfLL_iff,eAV])
 refine .q ?_
 refine .sq fun K2 hK2=>?_
 refine .d 12 ?_
 refine .k 4 (fun fs3 hfs3=>?_)
 refine .f (compareI_fc a c) hb109 ?_
 refine .k 4 (fun fs4 hfs4=>?_)
 refine .f (compareI_fc b d) hb109 ?_
 refine .k 1 (fun fs5 hfs5=>?_)
 refine .f (show FC Tryz.prog 108 [.isl (wd .i64 [cmI a c,cmI b d])] (.int .i64 (orL [cmI a c,cmI b d])) from cmpOr_fc [cmI a c,cmI b d] (by simp)) hb108 ?_
 refine .r 12 (by simp only[ln,hfs3,hfs4,hfs5];omega) ?_
 refine hK2 _ ?_
 refine .ret ?_
 exact hK _ _ _ _ trivial ((Fin.m).cast (by rfl))
end
def sortEd_lay_ren : Go.Shelf.Ren:=⟨fun | 6=>106 | 15=>162 | 14=>163 | 28=>211 | 29=>212 | 20=>213 | 21=>214 | 22=>215 | 23=>216 | 24=>217 | 25=>218 | 26=>219 | 27=>220 | 46=>259 | 47=>255 | 48=>256 | 49=>260 | 50=>261 | 57=>270 | n=>n,fun | 22=>38 | 24=>81 | 25=>155 | 3=>3 | 39=>216 | 0=>0 | 53=>223 | 55=>52 | 4=>4 | 46=>252 | 45=>251 | 50=>150 | 5=>5 | 9=>9 | 66=>286 | 70=>290 | 76=>300 | 77=>301 | n=>n,fun | n=>n⟩
theorem sortEd_lay : SlLaysF0.n6 Tryz.prog sortEd_lay_ren:={
 mixed:=by kernel_rfl
 f6:=⟨Tryz.f106.name,by decide,Tryz.func106.trans (congrArg some (by kernel_rfl))⟩
 f14:=⟨Tryz.f163.name,by decide,Tryz.func163.trans (congrArg some (by kernel_rfl))⟩
 f15:=Tryz.func162.trans (congrArg some (by kernel_rfl))
 f20:=⟨Tryz.f213.name,by decide,Tryz.func213.trans (congrArg some (by kernel_rfl))⟩
 f21:=⟨Tryz.f214.name,by decide,Tryz.func214.trans (congrArg some (by kernel_rfl))⟩
 f22:=⟨Tryz.f215.name,by decide,Tryz.func215.trans (congrArg some (by kernel_rfl))⟩
 f23:=⟨Tryz.f216.name,by decide,Tryz.func216.trans (congrArg some (by kernel_rfl))⟩
 f24:=⟨Tryz.f217.name,by decide,Tryz.func217.trans (congrArg some (by kernel_rfl))⟩
 f25:=⟨Tryz.f218.name,by decide,Tryz.func218.trans (congrArg some (by kernel_rfl))⟩
 f26:=⟨Tryz.f219.name,by decide,Tryz.func219.trans (congrArg some (by kernel_rfl))⟩
 f27:=⟨Tryz.f220.name,by decide,Tryz.func220.trans (congrArg some (by kernel_rfl))⟩
 f28:=Tryz.func211.trans (congrArg some (by kernel_rfl))
 f29:=Tryz.func212.trans (congrArg some (by kernel_rfl))
 f46:=⟨Tryz.f259.name,by decide,Tryz.func259.trans (congrArg some (by kernel_rfl))⟩
 f47:=Tryz.func255.trans (congrArg some (by kernel_rfl))
 f48:=Tryz.func256.trans (congrArg some (by kernel_rfl))
 f49:=⟨Tryz.f260.name,by decide,Tryz.func260.trans (congrArg some (by kernel_rfl))⟩
 f50:=⟨Tryz.f261.name,by decide,Tryz.func261.trans (congrArg some (by kernel_rfl))⟩
 f57:=⟨Tryz.f270.name,by decide,Tryz.func270.trans (congrArg some (by kernel_rfl))⟩
 t0:=Tryz.underlying0
 a0:=Tryz.isAgg0
 z0:=Tryz.sizeOf0
 v0:=Tryz.zeroValue0
 t3:=Tryz.underlying3
 a3:=Tryz.isAgg3
 z3:=Tryz.sizeOf3
 v3:=Tryz.zeroValue3
 t4:=Tryz.underlying4
 a4:=Tryz.isAgg4
 z4:=Tryz.sizeOf4
 v4:=Tryz.zeroValue4
 t5:=Tryz.underlying5
 a5:=Tryz.isAgg5
 z5:=Tryz.sizeOf5
 v5:=Tryz.zeroValue5
 t9:=Tryz.underlying9
 a9:=Tryz.isAgg9
 z9:=Tryz.sizeOf9
 v9:=Tryz.zeroValue9
 t22:=Tryz.underlying38
 a22:=Tryz.isAgg38
 z22:=Tryz.sizeOf38
 v22:=Tryz.zeroValue38
 t25:=Tryz.underlying155
 a25:=Tryz.isAgg155
 z25:=Tryz.sizeOf155
 v25:=Tryz.zeroValue155
 t39:=Tryz.underlying216
 a39:=Tryz.isAgg216
 z39:=Tryz.sizeOf216
 v39:=Tryz.zeroValue216
 t45:=Tryz.underlying251
 a45:=Tryz.isAgg251
 z45:=Tryz.sizeOf251
 v45:=Tryz.zeroValue251
 t46:=Tryz.underlying252
 a46:=Tryz.isAgg252
 z46:=Tryz.sizeOf252
 v46:=Tryz.zeroValue252
 t50:=Tryz.underlying150
 a50:=Tryz.isAgg150
 z50:=Tryz.sizeOf150
 v50:=Tryz.zeroValue150
 t53:=Tryz.underlying223
 a53:=Tryz.isAgg223
 z53:=Tryz.sizeOf223
 v53:=Tryz.zeroValue223
 t55:=Tryz.underlying52
 a55:=Tryz.isAgg52
 z55:=Tryz.sizeOf52
 v55:=Tryz.zeroValue52
 t66:=Tryz.underlying286
 a66:=Tryz.isAgg286
 z66:=Tryz.sizeOf286
 v66:=Tryz.zeroValue286
 t70:=Tryz.underlying290
 a70:=Tryz.isAgg290
 z70:=Tryz.sizeOf290
 v70:=Tryz.zeroValue290
 t76:=Tryz.underlying300
 a76:=Tryz.isAgg300
 z76:=Tryz.sizeOf300
 v76:=Tryz.zeroValue300
 t77:=Tryz.underlying301
 a77:=Tryz.isAgg301
 z77:=Tryz.sizeOf301
 v77:=Tryz.zeroValue301 }
def sortI_lay_ren : Go.Shelf.Ren:=⟨fun | 5=>105 | 8=>162 | 7=>161 | 19=>211 | 20=>212 | 10=>202 | 11=>203 | 12=>204 | 13=>205 | 14=>206 | 15=>207 | 16=>208 | 17=>209 | 18=>210 | 30=>254 | 31=>255 | 32=>256 | 33=>257 | 34=>258 | 35=>164 | 40=>269 | n=>n,fun | 23=>24 | 25=>2 | 3=>3 | 32=>216 | 22=>24 | 0=>0 | 44=>223 | 46=>52 | 4=>4 | 36=>252 | 35=>251 | 41=>150 | 5=>5 | 9=>9 | 53=>286 | 57=>290 | 63=>300 | 64=>301 | n=>n,fun | n=>n⟩
theorem sortI_lay : SlLaysM.n5 Tryz.prog sortI_lay_ren:={
 mixed:=by kernel_rfl
 f5:=⟨Tryz.f105.name,by decide,Tryz.func105.trans (congrArg some (by kernel_rfl))⟩
 f7:=⟨Tryz.f161.name,by decide,Tryz.func161.trans (congrArg some (by kernel_rfl))⟩
 f8:=Tryz.func162.trans (congrArg some (by kernel_rfl))
 f10:=⟨Tryz.f202.name,by decide,Tryz.func202.trans (congrArg some (by kernel_rfl))⟩
 f11:=⟨Tryz.f203.name,by decide,Tryz.func203.trans (congrArg some (by kernel_rfl))⟩
 f12:=⟨Tryz.f204.name,by decide,Tryz.func204.trans (congrArg some (by kernel_rfl))⟩
 f13:=⟨Tryz.f205.name,by decide,Tryz.func205.trans (congrArg some (by kernel_rfl))⟩
 f14:=⟨Tryz.f206.name,by decide,Tryz.func206.trans (congrArg some (by kernel_rfl))⟩
 f15:=⟨Tryz.f207.name,by decide,Tryz.func207.trans (congrArg some (by kernel_rfl))⟩
 f16:=⟨Tryz.f208.name,by decide,Tryz.func208.trans (congrArg some (by kernel_rfl))⟩
 f17:=⟨Tryz.f209.name,by decide,Tryz.func209.trans (congrArg some (by kernel_rfl))⟩
 f18:=⟨Tryz.f210.name,by decide,Tryz.func210.trans (congrArg some (by kernel_rfl))⟩
 f19:=Tryz.func211.trans (congrArg some (by kernel_rfl))
 f20:=Tryz.func212.trans (congrArg some (by kernel_rfl))
 f30:=⟨Tryz.f254.name,by decide,Tryz.func254.trans (congrArg some (by kernel_rfl))⟩
 f31:=Tryz.func255.trans (congrArg some (by kernel_rfl))
 f32:=Tryz.func256.trans (congrArg some (by kernel_rfl))
 f33:=⟨Tryz.f257.name,by decide,Tryz.func257.trans (congrArg some (by kernel_rfl))⟩
 f34:=⟨Tryz.f258.name,by decide,Tryz.func258.trans (congrArg some (by kernel_rfl))⟩
 f35:=⟨Tryz.f164.name,by decide,Tryz.func164.trans (congrArg some (by kernel_rfl))⟩
 f40:=⟨Tryz.f269.name,by decide,Tryz.func269.trans (congrArg some (by kernel_rfl))⟩
 t0:=Tryz.underlying0
 a0:=Tryz.isAgg0
 z0:=Tryz.sizeOf0
 v0:=Tryz.zeroValue0
 t3:=Tryz.underlying3
 a3:=Tryz.isAgg3
 z3:=Tryz.sizeOf3
 v3:=Tryz.zeroValue3
 t4:=Tryz.underlying4
 a4:=Tryz.isAgg4
 z4:=Tryz.sizeOf4
 v4:=Tryz.zeroValue4
 t5:=Tryz.underlying5
 a5:=Tryz.isAgg5
 z5:=Tryz.sizeOf5
 v5:=Tryz.zeroValue5
 t9:=Tryz.underlying9
 a9:=Tryz.isAgg9
 z9:=Tryz.sizeOf9
 v9:=Tryz.zeroValue9
 t22:=Tryz.underlying24
 a22:=Tryz.isAgg24
 z22:=Tryz.sizeOf24
 v22:=Tryz.zeroValue24
 t23:=Tryz.underlying24
 a23:=Tryz.isAgg24
 z23:=Tryz.sizeOf24
 v23:=Tryz.zeroValue24
 t25:=Tryz.underlying2
 a25:=Tryz.isAgg2
 z25:=Tryz.sizeOf2
 v25:=Tryz.zeroValue2
 t32:=Tryz.underlying216
 a32:=Tryz.isAgg216
 z32:=Tryz.sizeOf216
 v32:=Tryz.zeroValue216
 t35:=Tryz.underlying251
 a35:=Tryz.isAgg251
 z35:=Tryz.sizeOf251
 v35:=Tryz.zeroValue251
 t36:=Tryz.underlying252
 a36:=Tryz.isAgg252
 z36:=Tryz.sizeOf252
 v36:=Tryz.zeroValue252
 t41:=Tryz.underlying150
 a41:=Tryz.isAgg150
 z41:=Tryz.sizeOf150
 v41:=Tryz.zeroValue150
 t44:=Tryz.underlying223
 a44:=Tryz.isAgg223
 z44:=Tryz.sizeOf223
 v44:=Tryz.zeroValue223
 t46:=Tryz.underlying52
 a46:=Tryz.isAgg52
 z46:=Tryz.sizeOf52
 v46:=Tryz.zeroValue52
 t53:=Tryz.underlying286
 a53:=Tryz.isAgg286
 z53:=Tryz.sizeOf286
 v53:=Tryz.zeroValue286
 t57:=Tryz.underlying290
 a57:=Tryz.isAgg290
 z57:=Tryz.sizeOf290
 v57:=Tryz.zeroValue290
 t63:=Tryz.underlying300
 a63:=Tryz.isAgg300
 z63:=Tryz.sizeOf300
 v63:=Tryz.zeroValue300
 t64:=Tryz.underlying301
 a64:=Tryz.isAgg301
 z64:=Tryz.sizeOf301
 v64:=Tryz.zeroValue301 }
theorem sortEd_ac (d : List (Ed × Nat)) (n id : Nat) (HP : Heap) (nx : Nat) (hn : d.length = n) (hH : HP id = some (3,d.map ecl)) (hl : n ≤ 1099511627776) : ACall Tryz.prog 106 [.osl id 0 n,.fn 107 []] HP nx (fun r H' nx'=>r = .tup [] ∧ nx ≤ nx' ∧ ∃ d' : List (Ed × Nat),d'.Perm d ∧ d'.Pairwise (fun x y=>klt y.1.1 x.1.1 = false) ∧ H' = hupd HP id (some (3,d'.map ecl))) :=
  have hs : ltc (fun x y : Ed × Nat=>cmK x.1.1 y.1.1) = fun x y=>klt x.1.1 y.1.1:=by rw [← ltc_cmK]; rfl
  have q:=sortN_ac (cells:=ecl) (acells:=fun p vs=>[.int .i64 p.1.1.1,.int .i64 p.1.1.2,.raw (vs.getD 2 (.bool false))]) sortEd_lay Tryz.isAgg81 Tryz.sizeOf81 (fun _=>rfl)
    (fun x w β b vs h v hv=>by
      obtain ⟨v1,r1,rfl,rfl,v2,r2,rfl,rfl,v3,r3,rfl,h3,rfl⟩:=h
      obtain ⟨_,⟨p,k,c,rfl⟩,_⟩:=h3
      simp only [List.mem_cons,List.not_mem_nil,or_false] at hv
      rcases hv with rfl | rfl | rfl <;> rfl)
    (fun x w β b vs h=>by
      obtain ⟨v1,r1,rfl,rfl,v2,r2,rfl,rfl,v3,r3,rfl,h3,rfl⟩:=h
      exact ⟨_,_,rfl,rfl,_,_,rfl,rfl,_,_,rfl,rfl,rfl⟩)
    (fun x y=>cmK x.1.1 y.1.1) 107 [] hb107
    (fun x y us vs ⟨w,β,b,h⟩ ⟨w',β',b',h'⟩=>by
      obtain ⟨v1,r1,rfl,rfl,v2,r2,rfl,rfl,v3,r3,rfl,h3,rfl⟩:=h
      obtain ⟨u1,s1,rfl,rfl,u2,s2,rfl,rfl,u3,s3,rfl,h3',rfl⟩:=h'
      obtain ⟨_,hu,_⟩:=h3
      obtain ⟨_,hv,_⟩:=h3'
      exact planC_fc _ _ _ _ _ _ hu hv)
    (by rw [hs]; exact ⟨fun x=>swoK.irrefl _,fun x y z=>swoK.trans _ _ _,fun x y z=>swoK.ntrans _ _ _⟩) d n id HP nx hn hH hl
  q.mono fun r H' nx' ⟨e1,e2,d',e3,e4,e5⟩=>⟨e1,e2,d',e3,by rw [hs] at e4; exact e4,e5⟩

end Go.Proofs.YtjbbbkfdcegfmaaGreat

/- Walks: edges of the reference: one more, in order. -/
namespace Go.Proofs.YtjbbbkfdcegfmaaGreat
open Go Go.RowKit
set_option linter.unusedSimpArgs false
set_option linter.unusedVariables false
set_option maxRecDepth 100000
attribute [local simp] szT2 byT2 agT2 unT2 zoT2 szT3 byT3 agT3 unT3 zoT3 szT24 byT24 agT24 elT24 unT24 zoT24 szT38 byT38 agT38 elT38 unT38 zoT38 szT81 byT81 agT81 flT81 fdT81_0 fdT81_1 fdT81_2 zoT81 srT24 ixT24 lnT24 srT38

theorem eclT (D : List (Ed × Nat)) (j : Nat) : (∀ c ∈ (D.map ecl).take j,c.length = 3 ∧ ∀ x ∈ c,avOne x = true) = True:=by
  simp only [eq_iff_iff,iff_true]
  intro c hc
  obtain ⟨p,_,rfl⟩:=List.mem_map.1 (List.mem_of_mem_take hc)
  exact ⟨rfl,by simp [ecl,avOne]⟩
theorem eclD (D : List (Ed × Nat)) (j : Nat) : (∀ c ∈ (D.map ecl).drop j,c.length = 3 ∧ ∀ x ∈ c,avOne x = true) = True:=by
  simp only [eq_iff_iff,iff_true]
  intro c hc
  obtain ⟨p,_,rfl⟩:=List.mem_map.1 (List.mem_of_mem_drop hc)
  exact ⟨rfl,by simp [ecl,avOne]⟩

set_option maxHeartbeats 8000000 in
theorem l9Put_ac (D : List (Ed × Nat)) (a b n : Int) (lo ix : Nat) (HP : Heap) (nx : Nat) (hD : EdN HP lo nx ix D) (hl : D.length ≤ 1048576) (hsl : ∀ p ∈ D,p.1.2.length ≤ 1048576) : ACall Tryz.prog 101 [.osl ix 0 D.length,.int .i64 (a : Int),.int .i64 (b : Int),.int .i64 (n : Int)] HP nx (fun r H' nx'=>∃ ix' D',r = .osl ix' 0 D'.length ∧ EdN H' lo nx' ix' D' ∧ D'.map (·.1) = insE (D.map (·.1)) (a,b) n ∧ nx ≤ nx' ∧ ∀ k,k < nx → k ≠ ix → (∀ p ∈ D,k ≠ p.2) → H' k = HP k):=by
 refine .b Tryz.func101 97 fun K hK=>?_
 refine .q ?_
 refine .q ?_
 refine .sq fun K3 hK3=>?_
 refine .block ?_
 
 refine .loop (fun N s=>∃ j : Nat,N = D.length - j ∧ j ≤ D.length ∧ (s.heap = HP) ∧ (s.nx = nx) ∧ (∀ q,q < j → ∃ y,(D.map (·.1))[q]? = some y ∧ klt y.1 (a,b) = true) ∧ s.env 0 = .osl ix 0 D.length ∧ s.env 1 = .int .i64 (a : Int) ∧ s.env 2 = .int .i64 (b : Int) ∧ s.env 3 = .int .i64 (n : Int) ∧ s.env 9 = .int .i64 (j : Int) ∧ s.nt = 97) (D.length) (by refine ⟨0,by omega,by omega,rfl,rfl,fun q h=>by omega,?_,?_,?_,?_,?_,rfl⟩ <;> first|(simp (disch:=omega);done)|omega|(simp;done)|(simp;omega)) ?_
 rintro N ⟨e,H,mm,nt⟩ ⟨j,rfl,hj,hHP,hnx,hq,g0,g1,g2,g3,g9,rfl⟩
 simp only [] at g0 g1 g2 g3 g9
 simp only [] at hHP hnx
 subst hHP hnx
 refine .sq fun K4 hK4=>?_
 refine .sq fun K5 hK5=>?_
 have hjl : j ≤ D.length:=hj
 by_cases hjm : j < D.length
 ·obtain ⟨⟨⟨⟨pa,pb⟩,ps⟩,px⟩,hp⟩ : ∃ p,D[j]? = some p:=⟨_,List.getElem?_eq_getElem hjm⟩
  have hat : (D.map ecl)[j]? = some [.int .i64 pa,.int .i64 pb,.osl px 0 ps.length]:=by rw [List.getElem?_map,hp]; rfl
  have hae : ∀ h : j < (D.map ecl).length,(D.map ecl)[j] = [.int .i64 pa,.int .i64 pb,.osl px 0 ps.length]:=fun h=>by rw [List.getElem?_eq_getElem h] at hat; simpa using hat
  have htop:=hD.top
  by_cases h1 : pa < a
  ·have hd1 : decide (pa < a) = true:=by simp; omega
   refine .r ?_ (by simp (disch:=first|exact zd|fail) [if_pos,g0,g1,g2,g3,g9,htop,hat,hae,hjm,List.length_map,hd1]; rfl)
   refine hK5 _ ?_
   refine .c (t:=true) (fun h41=>?_) (fun h41=>?_)
   ·try simp only[dc]at h41
    have hlt : klt ((pa,pb),ps).1 (a,b) = true:=klt_iff.2 (by simp only []; omega)
    refine .skip ?_
    refine hK4 _ ?_
    refine .block ?_
    refine .r ?_ (by simp (disch:=first|exact zd|fail) [g9]; rfl)
    refine ⟨D.length - (j + 1),by omega,j + 1,rfl,by omega,rfl,rfl,fun q hq'=>by
      rcases Nat.lt_or_ge q j with h | h
      · exact hq q h
      · rw [show q = j by omega]; exact ⟨((pa,pb),ps),by rw [List.getElem?_map,hp]; rfl,hlt⟩,?_,?_,?_,?_,?_,rfl⟩ <;> first|(simp (disch:=omega) [g0,g1,g2,g3,g9];done)|omega|(simp;done)|(simp;omega)
   ·simp at h41
  ·by_cases h2 : pa = a
   ·by_cases h3 : pb < b
    ·have hd1 : decide (pa < a) = false:=by simp; omega
     have hd2 : (pa == a) = true:=by simp; omega
     have hd3 : decide (pb < b) = true:=by simp; omega
     refine .r ?_ (by simp (disch:=first|exact zd|fail) [if_pos,g0,g1,g2,g3,g9,htop,hat,hae,hjm,List.length_map,hd1,hd2,hd3]; rfl)
     refine hK5 _ ?_
     refine .c (t:=true) (fun h41=>?_) (fun h41=>?_)
     ·try simp only[dc]at h41
      have hlt : klt ((pa,pb),ps).1 (a,b) = true:=klt_iff.2 (by simp only []; omega)
      refine .skip ?_
      refine hK4 _ ?_
      refine .block ?_
      refine .r ?_ (by simp (disch:=first|exact zd|fail) [g9]; rfl)
      refine ⟨D.length - (j + 1),by omega,j + 1,rfl,by omega,rfl,rfl,fun q hq'=>by
        rcases Nat.lt_or_ge q j with h | h
        · exact hq q h
        · rw [show q = j by omega]; exact ⟨((pa,pb),ps),by rw [List.getElem?_map,hp]; rfl,hlt⟩,?_,?_,?_,?_,?_,rfl⟩ <;> first|(simp (disch:=omega) [g0,g1,g2,g3,g9];done)|omega|(simp;done)|(simp;omega)
     ·simp at h41
    ·have hd1 : decide (pa < a) = false:=by simp; omega
     have hd2 : (pa == a) = true:=by simp; omega
     have hd3 : decide (pb < b) = false:=by simp; omega
     refine .r ?_ (by simp (disch:=first|exact zd|fail) [if_pos,g0,g1,g2,g3,g9,htop,hat,hae,hjm,List.length_map,hd1,hd2,hd3]; rfl)
     refine hK5 _ ?_
     refine .c (t:=false) (fun h41=>?_) (fun h41=>?_)
     ·simp at h41
     ·try simp only[dc]at h41
      refine .exit ?_
      refine hK3 _ ?_
      refine .sq fun K6 hK6=>?_
      refine .sq fun K7 hK7=>?_
      by_cases h4 : pb = b
      ·have hd4 : (pb == b) = true:=by simp; omega
       refine .r ?_ (by simp (disch:=first|exact zd|fail) [if_pos,g0,g1,g2,g3,g9,htop,hat,hae,hjm,List.length_map,hd2,hd4]; rfl)
       refine hK7 _ ?_
       refine .c (t:=true) (fun h65=>?_) (fun h65=>?_)
       ·try simp only[dc]at h65
        refine .sq fun K8 hK8=>?_
        obtain ⟨f1,f2,f3,f4⟩:=hD.at hp
        have hsb:=hsl _ (List.mem_of_getElem? hp)
        simp only [] at f1 f2 f3 f4 hsb
        have hc1 : (ps.length + 1) * 8 ≤ 140737488355328:=by omega
        have hc2 : ps.length ≤ 9223372036854775806:=by omega
        have hwl : (wd .i64 ps).length = ps.length:=List.length_map _
        have htk : List.take ps.length (wd .i64 ps) = wd .i64 ps:=List.take_of_length_le (Nat.le_of_eq hwl)
        have hne : ¬ ix = px:=fun e=>f3 e.symm
        have hix:=hD.ixr.2
        refine .region ?_
        refine .k 9 ?_ (by simp (disch:=first|exact zd|fail) [List.take_succ_cons,List.take_zero,if_pos,g0,g1,g2,g3,g9,htop,hat,hae,hjm,List.length_map,f4,hne]; rfl)
        refine AOPS.opapp (by simp (disch:=first|exact zd|fail) [if_pos,wd_append,wd_take,wd_drop,List.nil_append,f4,hc1,hc2,hwl,htk]; first | rfl | exact ⟨rfl,rfl⟩ | exact ⟨rfl,rfl,rfl⟩) (by simp) (by simp) ?_
        simp only [puts_some,hdrop]
        refine .e ?_ (by simp (disch:=first|exact zd|fail) [if_pos,g0,g1,g2,g3,g9,htop,hat,hae,hjm,List.length_map,f4,hne]; rfl)
        refine hK8 _ ?_
        refine .q ?_ (by simp (disch:=first|exact zd|fail) [g0]; rfl)
        refine .ret ?_
        exact hK _ _ _ _ _ trivial (Fin.m) (⟨ix,D.set j (((pa,pb),ps ++ [n]),mm + 1),by simp,hD.set hp (by first|omega|(simp;done)|(simp;omega)) (by first|omega|(simp;done)|(simp;omega)) (by simp (disch:=omega)) (by simp (disch:=omega) [htop,ecl]) (fun k h1 h2 h3 h4=>by have h5 : k ≠ px:=h4; simp (disch:=omega)),by rw [insE_on hq (by rw [List.getElem?_map,hp]; rfl) (by simp only [Prod.mk.injEq]; omega),List.map_set,h2,h4],by first|omega|(simp;done)|(simp;omega),fun k h1 h2 h3=>by have h5 : k ≠ px:=h3 _ (List.mem_of_getElem? hp); simp (disch:=omega)⟩)
       ·simp at h65
      ·have hd4 : (pb == b) = false:=by simp; omega
       have hnl : ∀ e,(D.map (·.1))[j]? = some e → klt e.1 (a,b) = false ∧ e.1 ≠ (a,b):=fun e he=>by
         rw [List.getElem?_map,hp] at he
         obtain rfl:=Option.some.inj he
         exact ⟨klt_not.2 (by simp only []; omega),fun h=>by simp only [Prod.mk.injEq] at h; omega⟩
       refine .r ?_ (by simp (disch:=first|exact zd|fail) [if_pos,g0,g1,g2,g3,g9,htop,hat,hae,hjm,List.length_map,hd2,hd4]; rfl)
       refine hK7 _ ?_
       refine .c (t:=false) (fun h65=>?_) (fun h65=>?_)
       ·simp at h65
       ·try simp only[dc]at h65
        have hins:=insE_at (n:=n) hq hnl
        refine .skip ?_
        refine hK6 _ ?_
        refine .sq fun K10 hK10=>?_
        have hix:=hD.ixr.2
        have hmin : min j D.length = j:=Nat.min_eq_left hjl
        have htl : (List.take j (D.map ecl)).length = j:=by simp [hmin]
        have hdl : (List.drop j (D.map ecl)).length = D.length - j:=by simp
        have htd : List.take (D.length - j) (List.drop j (D.map ecl)) = List.drop j (D.map ecl):=List.take_of_length_le (Nat.le_of_eq hdl)
        have hta : ∀ y,List.take (j + 1) (List.take j (D.map ecl) ++ [y]) = List.take j (D.map ecl) ++ [y]:=fun y=>List.take_of_length_le (by rw [List.length_append,htl]; exact Nat.le_refl _)
        refine .region ?_
        refine .k 4 ?_ (by simp (disch:=first|exact zd|fail) [List.take_succ_cons,List.take_zero,if_pos,g0,g1,g2,g3,g9,htop]; rfl)
        refine AOPS.opapp (by simp (disch:=first|exact zd|fail) [if_pos,wd_append,wd_take,wd_drop,List.nil_append,htop,eclT,hjl,htl]; first | rfl | exact ⟨rfl,rfl⟩ | exact ⟨rfl,rfl,rfl⟩) (by simp) (by simp) ?_
        simp only [puts_some,hdrop]
        refine .e ?_ (by simp (disch:=first|exact zd|fail) [if_pos,g0,g1,g2,g3,g9,htop]; rfl)
        refine hK10 _ ?_
        refine .sq fun K11 hK11=>?_
        refine .region ?_
        refine .k 7 ?_ (by simp (disch:=first|exact zd|fail) [List.take_succ_cons,List.take_zero,g0,g1,g2,g3,g9,htl]; rfl)
        refine AOPS.opapp (by simp (disch:=first|exact zd|fail) [if_pos,wd_append,wd_take,wd_drop,List.nil_append,htl,List.take_append_of_le_length,List.take_take,List.take_of_length_le]; first | rfl | exact ⟨rfl,rfl⟩ | exact ⟨rfl,rfl,rfl⟩) (by simp) (by simp) ?_
        simp only [puts_some,hdrop]
        refine .e ?_ (by simp (disch:=first|exact zd|fail) [g0,g1,g2,g3,g9,htl]; rfl)
        refine hK11 _ ?_
        refine .sq fun K12 hK12=>?_
        refine .region ?_
        refine .k 4 ?_ (by simp (disch:=first|exact zd|fail) [List.take_succ_cons,List.take_zero,if_pos,g0,g1,g2,g3,g9,htop,htl]; rfl)
        refine AOPS.opapp (by simp (disch:=first|exact zd|fail) [if_pos,wd_append,wd_take,wd_drop,List.nil_append,htop,eclD,htl,hdl,htd,hta]; first | rfl | exact ⟨rfl,rfl⟩ | exact ⟨rfl,rfl,rfl⟩) (by simp) (by simp) ?_
        simp only [puts_some,hdrop]
        refine .e ?_ (by simp (disch:=first|exact zd|fail) [if_pos,g0,g1,g2,g3,g9,htop,htl]; rfl)
        refine hK12 _ ?_
        refine .ret ?_
        exact hK _ _ _ _ _ trivial (Fin.m) (⟨mm + 1 + 1 + 1 + 1 + 1,D.take j ++ (((a,b),[n]),mm + 1 + 1) :: D.drop j,by first|(simp [hmin];done)|(simp [hmin];omega),hD.ins j (by first|omega|(simp;done)|(simp;omega)) (by first|omega|(simp;done)|(simp;omega)) (by first|omega|(simp;done)|(simp;omega)) (by first|omega|(simp;done)|(simp;omega)) (by first|omega|(simp;done)|(simp;omega)) (by simp (disch:=omega)) (by simp (disch:=omega) [ecl] <;> omega) (fun k h1 h2 h3=>by simp (disch:=omega)),by rw [hins]; first|(simp;done)|(simp;omega),by first|omega|(simp;done)|(simp;omega),fun k h1 h2 h3=>by simp (disch:=omega)⟩)
   ·have hd1 : decide (pa < a) = false:=by simp; omega
    have hd2 : (pa == a) = false:=by simp; omega
    refine .r ?_ (by simp (disch:=first|exact zd|fail) [if_pos,g0,g1,g2,g3,g9,htop,hat,hae,hjm,List.length_map,hd1,hd2]; rfl)
    refine hK5 _ ?_
    refine .c (t:=false) (fun h41=>?_) (fun h41=>?_)
    ·simp at h41
    ·try simp only[dc]at h41
     have hnl : ∀ e,(D.map (·.1))[j]? = some e → klt e.1 (a,b) = false ∧ e.1 ≠ (a,b):=fun e he=>by
       rw [List.getElem?_map,hp] at he
       obtain rfl:=Option.some.inj he
       exact ⟨klt_not.2 (by simp only []; omega),fun h=>by simp only [Prod.mk.injEq] at h; omega⟩
     refine .exit ?_
     refine hK3 _ ?_
     refine .sq fun K13 hK13=>?_
     refine .q ?_ (by simp (disch:=first|exact zd|fail) [if_pos,g0,g1,g2,g3,g9,htop,hat,hae,hjm,List.length_map,hd2]; rfl)
     refine .c (t:=false) (fun h65=>?_) (fun h65=>?_)
     ·simp at h65
     ·try simp only[dc]at h65
      have hins:=insE_at (n:=n) hq hnl
      refine .skip ?_
      refine hK13 _ ?_
      refine .sq fun K15 hK15=>?_
      have hix:=hD.ixr.2
      have hmin : min j D.length = j:=Nat.min_eq_left hjl
      have htl : (List.take j (D.map ecl)).length = j:=by simp [hmin]
      have hdl : (List.drop j (D.map ecl)).length = D.length - j:=by simp
      have htd : List.take (D.length - j) (List.drop j (D.map ecl)) = List.drop j (D.map ecl):=List.take_of_length_le (Nat.le_of_eq hdl)
      have hta : ∀ y,List.take (j + 1) (List.take j (D.map ecl) ++ [y]) = List.take j (D.map ecl) ++ [y]:=fun y=>List.take_of_length_le (by rw [List.length_append,htl]; exact Nat.le_refl _)
      refine .region ?_
      refine .k 4 ?_ (by simp (disch:=first|exact zd|fail) [List.take_succ_cons,List.take_zero,if_pos,g0,g1,g2,g3,g9,htop]; rfl)
      refine AOPS.opapp (by simp (disch:=first|exact zd|fail) [if_pos,wd_append,wd_take,wd_drop,List.nil_append,htop,eclT,hjl,htl]; first | rfl | exact ⟨rfl,rfl⟩ | exact ⟨rfl,rfl,rfl⟩) (by simp) (by simp) ?_
      simp only [puts_some,hdrop]
      refine .e ?_ (by simp (disch:=first|exact zd|fail) [if_pos,g0,g1,g2,g3,g9,htop]; rfl)
      refine hK15 _ ?_
      refine .sq fun K16 hK16=>?_
      refine .region ?_
      refine .k 7 ?_ (by simp (disch:=first|exact zd|fail) [List.take_succ_cons,List.take_zero,g0,g1,g2,g3,g9,htl]; rfl)
      refine AOPS.opapp (by simp (disch:=first|exact zd|fail) [if_pos,wd_append,wd_take,wd_drop,List.nil_append,htl,List.take_append_of_le_length,List.take_take,List.take_of_length_le]; first | rfl | exact ⟨rfl,rfl⟩ | exact ⟨rfl,rfl,rfl⟩) (by simp) (by simp) ?_
      simp only [puts_some,hdrop]
      refine .e ?_ (by simp (disch:=first|exact zd|fail) [g0,g1,g2,g3,g9,htl]; rfl)
      refine hK16 _ ?_
      refine .sq fun K17 hK17=>?_
      refine .region ?_
      refine .k 4 ?_ (by simp (disch:=first|exact zd|fail) [List.take_succ_cons,List.take_zero,if_pos,g0,g1,g2,g3,g9,htop,htl]; rfl)
      refine AOPS.opapp (by simp (disch:=first|exact zd|fail) [if_pos,wd_append,wd_take,wd_drop,List.nil_append,htop,eclD,htl,hdl,htd,hta]; first | rfl | exact ⟨rfl,rfl⟩ | exact ⟨rfl,rfl,rfl⟩) (by simp) (by simp) ?_
      simp only [puts_some,hdrop]
      refine .e ?_ (by simp (disch:=first|exact zd|fail) [if_pos,g0,g1,g2,g3,g9,htop,htl]; rfl)
      refine hK17 _ ?_
      refine .ret ?_
      exact hK _ _ _ _ _ trivial (Fin.m) (⟨mm + 1 + 1 + 1 + 1 + 1,D.take j ++ (((a,b),[n]),mm + 1 + 1) :: D.drop j,by first|(simp [hmin];done)|(simp [hmin];omega),hD.ins j (by first|omega|(simp;done)|(simp;omega)) (by first|omega|(simp;done)|(simp;omega)) (by first|omega|(simp;done)|(simp;omega)) (by first|omega|(simp;done)|(simp;omega)) (by first|omega|(simp;done)|(simp;omega)) (by simp (disch:=omega)) (by simp (disch:=omega) [ecl] <;> omega) (fun k h1 h2 h3=>by simp (disch:=omega)),by rw [hins]; first|(simp;done)|(simp;omega),by first|omega|(simp;done)|(simp;omega),fun k h1 h2 h3=>by simp (disch:=omega)⟩)
 ·have htop:=hD.top
  have hjn : j = D.length:=by omega
  have hnl : ∀ e,(D.map (·.1))[j]? = some e → klt e.1 (a,b) = false ∧ e.1 ≠ (a,b):=fun e he=>by rw [List.getElem?_eq_none (by simp; omega)] at he; simp at he
  refine .r ?_ (by simp (disch:=first|exact zd|fail) [if_pos,g0,g1,g2,g3,g9,hjm,htop]; rfl)
  refine hK5 _ ?_
  refine .c (t:=false) (fun h41=>?_) (fun h41=>?_)
  ·simp at h41
  ·try simp only[dc]at h41
   refine .exit ?_
   refine hK3 _ ?_
   refine .sq fun K18 hK18=>?_
   refine .q ?_ (by simp (disch:=first|exact zd|fail) [if_pos,g0,g1,g2,g3,g9,hjm,htop]; rfl)
   refine .c (t:=false) (fun h65=>?_) (fun h65=>?_)
   ·simp at h65
   ·try simp only[dc]at h65
    have hins:=insE_at (n:=n) hq hnl
    refine .skip ?_
    refine hK18 _ ?_
    refine .sq fun K20 hK20=>?_
    have hix:=hD.ixr.2
    have hmin : min j D.length = j:=Nat.min_eq_left hjl
    have htl : (List.take j (D.map ecl)).length = j:=by simp [hmin]
    have hdl : (List.drop j (D.map ecl)).length = D.length - j:=by simp
    have htd : List.take (D.length - j) (List.drop j (D.map ecl)) = List.drop j (D.map ecl):=List.take_of_length_le (Nat.le_of_eq hdl)
    have hta : ∀ y,List.take (j + 1) (List.take j (D.map ecl) ++ [y]) = List.take j (D.map ecl) ++ [y]:=fun y=>List.take_of_length_le (by rw [List.length_append,htl]; exact Nat.le_refl _)
    refine .region ?_
    refine .k 4 ?_ (by simp (disch:=first|exact zd|fail) [List.take_succ_cons,List.take_zero,if_pos,g0,g1,g2,g3,g9,htop]; rfl)
    refine AOPS.opapp (by simp (disch:=first|exact zd|fail) [if_pos,wd_append,wd_take,wd_drop,List.nil_append,htop,eclT,hjl,htl]; first | rfl | exact ⟨rfl,rfl⟩ | exact ⟨rfl,rfl,rfl⟩) (by simp) (by simp) ?_
    simp only [puts_some,hdrop]
    refine .e ?_ (by simp (disch:=first|exact zd|fail) [if_pos,g0,g1,g2,g3,g9,htop]; rfl)
    refine hK20 _ ?_
    refine .sq fun K21 hK21=>?_
    refine .region ?_
    refine .k 7 ?_ (by simp (disch:=first|exact zd|fail) [List.take_succ_cons,List.take_zero,g0,g1,g2,g3,g9,htl]; rfl)
    refine AOPS.opapp (by simp (disch:=first|exact zd|fail) [if_pos,wd_append,wd_take,wd_drop,List.nil_append,htl,List.take_append_of_le_length,List.take_take,List.take_of_length_le]; first | rfl | exact ⟨rfl,rfl⟩ | exact ⟨rfl,rfl,rfl⟩) (by simp) (by simp) ?_
    simp only [puts_some,hdrop]
    refine .e ?_ (by simp (disch:=first|exact zd|fail) [g0,g1,g2,g3,g9,htl]; rfl)
    refine hK21 _ ?_
    refine .sq fun K22 hK22=>?_
    refine .region ?_
    refine .k 4 ?_ (by simp (disch:=first|exact zd|fail) [List.take_succ_cons,List.take_zero,if_pos,g0,g1,g2,g3,g9,htop,htl]; rfl)
    refine AOPS.opapp (by simp (disch:=first|exact zd|fail) [if_pos,wd_append,wd_take,wd_drop,List.nil_append,htop,eclD,htl,hdl,htd,hta]; first | rfl | exact ⟨rfl,rfl⟩ | exact ⟨rfl,rfl,rfl⟩) (by simp) (by simp) ?_
    simp only [puts_some,hdrop]
    refine .e ?_ (by simp (disch:=first|exact zd|fail) [if_pos,g0,g1,g2,g3,g9,htop,htl]; rfl)
    refine hK22 _ ?_
    refine .ret ?_
    exact hK _ _ _ _ _ trivial (Fin.m) (⟨mm + 1 + 1 + 1 + 1 + 1,D.take j ++ (((a,b),[n]),mm + 1 + 1) :: D.drop j,by first|(simp [hmin];done)|(simp [hmin];omega),hD.ins j (by first|omega|(simp;done)|(simp;omega)) (by first|omega|(simp;done)|(simp;omega)) (by first|omega|(simp;done)|(simp;omega)) (by first|omega|(simp;done)|(simp;omega)) (by first|omega|(simp;done)|(simp;omega)) (by simp (disch:=omega)) (by simp (disch:=omega) [ecl] <;> omega) (fun k h1 h2 h3=>by simp (disch:=omega)),by rw [hins]; first|(simp;done)|(simp;omega),by first|omega|(simp;done)|(simp;omega),fun k h1 h2 h3=>by simp (disch:=omega)⟩)

end Go.Proofs.YtjbbbkfdcegfmaaGreat

/- Walks: the plan of the reference. -/
namespace Go.Proofs.YtjbbbkfdcegfmaaGreat
open Go Go.RowKit
set_option linter.unusedSimpArgs false
set_option linter.unusedVariables false
set_option maxRecDepth 100000
attribute [local simp] szT2 byT2 agT2 unT2 zoT2 szT3 byT3 agT3 unT3 zoT3 szT24 byT24 agT24 elT24 unT24 zoT24 szT27 byT27 agT27 elT27 unT27 zoT27 szT38 byT38 agT38 elT38 unT38 zoT38 szT76 byT76 agT76 elT76 unT76 zoT76 szT78 byT78 agT78 flT78 fdT78_0 fdT78_1 zoT78 szT81 byT81 agT81 flT81 fdT81_0 fdT81_1 fdT81_2 zoT81 szT83 byT83 agT83 flT83 fdT83_0 fdT83_1 zoT83 szT85 byT85 agT85 flT85 fdT85_0 fdT85_1 zoT85 szT94 byT94 agT94 elT94 unT94 zoT94 szT105 byT105 agT105 flT105 fdT105_0 fdT105_1 zoT105 szT107 byT107 agT107 flT107 fdT107_0 fdT107_1 fdT107_2 zoT107 srT24 ixT24 lnT24 srT27 srT38 srT76 srT94

theorem AWP.frzC {P : Program} {s : St} {c : Code} {K : Exit → St → Prop} (jx id z z2 : Nat) (es es2 es3 : List (List AV)) (hH : s.heap id = some (z,es)) (hj : s.heap jx = some (z2,es2)) (hne : jx ≠ id) (hv : fzLL id es es2 = es3) (h : AWP P c K { s with heap:=hupd (hupd s.heap id none) jx (some (z2,es3)) }) : AWP P c K s :=
  AWP.freeze hH (fun _=>.inl rfl) (by simp [hupd,hne.symm]) (fun i hi=>by
    by_cases e : i = jx
    · subst e; exact .inr ⟨z2,es2,hj,by simp [hupd,hv]⟩
    · exact .inl (by simp [hupd,hi,e])) h
theorem pN_yes {L : List Sg} {i k : Nat} (h : onF (gq L i) (gpq L k).1 = true) : pN L i (k + 1) = pN L i k ++ [(k : Int)]:=by
  show pN L i k ++ (if onF (gq L i) (gpq L k).1 = true then [(k : Int)] else []) = _
  rw [if_pos h]
theorem pN_no {L : List Sg} {i k : Nat} (h : onF (gq L i) (gpq L k).1 = false) : pN L i (k + 1) = pN L i k:=by
  show pN L i k ++ (if onF (gq L i) (gpq L k).1 = true then [(k : Int)] else []) = _
  rw [h]; simp
theorem lv_cellS (H : Heap) (k : Nat) (l : List GP) : lv H (k + 2) (.isl (l.map cellS)) = .isl (l.map cellS):=by
  have e : ∀ g : GP,(cellS g).map (YtjbbbkfdcegfmaaGreat.lv H (k + 1)) = cellS g:=fun g=>by simp [cellS,l3C,lv_bool,Wd,YtjbbbkfdcegfmaaGreat.lv,wd,lv_int,Function.comp_def]
  rw [YtjbbbkfdcegfmaaGreat.lv,List.map_map]
  congr 1
  exact List.map_congr_left fun g _=>e g
theorem EdN.lv {H : Heap} {lo hi ix : Nat} {D : List (Ed × Nat)} (h : EdN H lo hi ix D) (k : Nat) : lv H (k + 2) (.osl ix 0 D.length) = .isl (D.map fun p=>edC p.1):=by
  have e1 : ∀ p ∈ D,(ecl p).map (YtjbbbkfdcegfmaaGreat.lv H (k + 1)) = edC p.1:=fun p hp=>by
    unfold ecl edC
    simp only [List.map_cons,List.map_nil,lv_int]
    rw [YtjbbbkfdcegfmaaGreat.lv,(h.fr p hp).2.2.2]
    simp only []
    rw [if_pos (by rw [wd_len]; omega),List.drop_zero,List.take_of_length_le (by rw [wd_len]; exact Nat.le_refl _),lv_wd]; rfl
  rw [YtjbbbkfdcegfmaaGreat.lv,h.top]
  simp only []
  rw [if_pos (by simp),List.drop_zero,List.take_of_length_le (by simp),List.map_map]
  congr 1
  exact List.map_congr_left fun p hp=>e1 p hp
def onR (L : List Sg) (i : Nat) : List (List AV):=(List.range i).map fun q=>[Wd .i64 (pN L q (hitP L).length)]
theorem onR_len (L : List Sg) (i : Nat) : (onR L i).length = i:=by simp [onR]
theorem onR_take (L : List Sg) (i : Nat) : List.take i (onR L i) = onR L i:=List.take_of_length_le (by rw [onR_len]; exact Nat.le_refl _)
theorem onR_snoc (L : List Sg) (i : Nat) : onR L i ++ [[Wd .i64 (pN L i (hitP L).length)]] = onR L (i + 1):=by simp [onR,List.range_succ]
theorem onR_get {L : List Sg} {i n : Nat} (h : i < n) : (onR L n)[i]? = some [Wd .i64 (pN L i (hitP L).length)]:=by simp [onR,h]
theorem onR_fz {L : List Sg} {i id : Nat} {es : List (List AV)} {x : AV} : fzLL id es (onR L i ++ [[x]]) = onR L i ++ [[fz id es x]]:=by
  have : ∀ l : List Nat,fzLL id es (l.map (fun q=>[Wd .i64 (pN L q (hitP L).length)]) ++ [[x]]) = l.map (fun q=>[Wd .i64 (pN L q (hitP L).length)]) ++ [[fz id es x]]:=fun l=>by
    induction l with
    | nil=>rfl
    | cons q l ih=>rw [List.map_cons,List.cons_append,fzLL,ih,fzL,fz_Wd]; rfl
  exact this _
theorem onR_app (L : List Sg) (i : Nat) : (∀ c ∈ onR L i,c.length = 1 ∧ ∀ x ∈ c,avOne x = true) = True:=by
  simp only [eq_iff_iff,iff_true]
  intro c hc
  obtain ⟨q,_,rfl⟩:=List.mem_map.1 hc
  exact ⟨rfl,by simp [Wd,avOne]⟩

section
attribute [local simp] idf_numS cells_numS numS_fold idf_numI cells_numI numI_fold Sp.av Sp.cells Sg.av Sg.cells l3A l3C
set_option maxHeartbeats 8000000 in
theorem l9Plan_ac (L : List Sg) (z1 : L.length ≤ 40) (z2 : ∀ s ∈ L,s.good = true) (nx : Nat) : ACall Tryz.prog 59 [.isl (L.map Sg.cells)] (fun _=>none) nx (fun r H' nx'=>∃ ix D,r = .agg [.isl ((hitP L).map cellS),.osl ix 0 D.length] ∧ EdN H' (nx + 1) nx' ix D ∧ D.map (·.1) = edL L):=by
 have hpb : (hitP L).length ≤ 1680:=by rw [hitP_len]; exact ded_b z1 (Nat.le_refl _)
 refine .b Tryz.func59 87 fun K hK=>?_
 refine .q ?_
 refine .sq fun K2 hK2=>?_
 refine .region ?_
 refine .kf 1 (l8Points_fc L z1 z2) hb99 ?_
 refine .e ?_
 refine hK2 _ ?_
 refine .q ?_
 refine .sq fun K4 hK4=>?_
 refine .q ?_
 refine .block ?_
 
 refine .loop (fun N s=>∃ i : Nat,∃ io : Nat,N = L.length - i ∧ i ≤ L.length ∧ (nx + 1 + 1 < io) ∧ s.env 0 = .isl (L.map Sg.cells) ∧ s.env 2 = .ptr nx 0 0 ∧ s.env 3 = .ptr (nx + 1 + 1) 0 0 ∧ s.env 4 = .osl io 0 i ∧ s.env 5 = .int .i64 (i : Int) ∧ s.heap nx = some (2,[[.nsl,.nsl]]) ∧ nx < s.nx ∧ s.heap (nx + 1 + 1) = some (2,[[.isl ((hitP L).map cellS),.osl (nx + 1) 0 0]]) ∧ (nx + 1 + 1) < s.nx ∧ s.heap (nx + 1) = some (3,[]) ∧ (nx + 1) < s.nx ∧ s.heap io = some (1,onR L i) ∧ io < s.nx ∧ s.nt = 87) (L.length) (by refine ⟨0,(nx + 1 + 1 + 1),by omega,by omega,by omega,?_,?_,?_,?_,?_,?_,?_,?_,?_,?_,?_,?_,?_,rfl⟩ <;> first|(simp (disch:=omega) [onR];done)|omega|(simp;done)|(simp;omega)) ?_
 rintro N ⟨e,H,mm,nt⟩ ⟨i,io,rfl,hi,hio,g0,g2,g3,g4,g5,Hr,xr,Hp,xp,He,xe,Ho,xo,rfl⟩
 simp only [] at g0 g2 g3 g4 g5 Hr xr Hp xp He xe Ho xo
 refine .sq fun K6 hK6=>?_
 refine .q ?_ (by simp (disch:=first|exact zd|fail) [g0,g5,List.length_map]; rfl)
 refine .c (fun h17=>?_) (fun h17=>?_)
 ·try simp only[dc]at h17
  have hi' : i < L.length:=by omega
  have hat:=gq_get hi'
  obtain ⟨s0,hs0⟩ : ∃ s0,s0 = gq L i:=⟨_,rfl⟩
  have gs:=z2 _ (gq_mem hi')
  rw [← hs0] at gs
  have hat2 : (L.map Sg.cells)[i]? = some (Sg.cells s0):=by rw [List.getElem?_map,hat,hs0]; rfl
  have hae2 : ∀ h : i < (L.map Sg.cells).length,(L.map Sg.cells)[i] = Sg.cells s0:=fun h=>by rw [List.getElem?_eq_getElem h] at hat2; simpa using hat2
  have htkR : List.take i (onR L i) = onR L i:=List.take_of_length_le (by rw [onR_len]; exact Nat.le_refl _)
  have hoi : ∀ x : List AV,(onR L i ++ [x])[i]? = some x:=fun x=>by rw [List.getElem?_append_right (by rw [onR_len]; exact Nat.le_refl _),onR_len,Nat.sub_self]; rfl
  have hos : ∀ x y : List AV,(onR L i ++ [x]).set i y = onR L i ++ [y]:=fun x y=>by rw [List.set_append_right _ _ (by rw [onR_len]; exact Nat.le_refl _),onR_len,Nat.sub_self]; rfl
  have hol : ∀ x : List AV,(onR L i ++ [x]).length = i + 1:=fun x=>by rw [List.length_append,onR_len]; rfl
  have hc1 : (i + 1) * 24 ≤ 140737488355328:=by omega
  refine .skip ?_
  refine hK6 _ ?_
  refine .sq fun K8 hK8=>?_
  refine .block ?_
  refine .sq fun K9 hK9=>?_
  refine .region ?_
  refine .k 3 ?_ (by simp (disch:=first|exact zd|fail) [List.take_succ_cons,List.take_zero,g0,g2,g3,g4,g5,Hr,Hp,He,Ho]; rfl)
  refine AOPS.opapp (by simp (disch:=first|exact zd|fail) [if_pos,wd_append,wd_take,wd_drop,List.nil_append,Ho,onR_len,onR_app,htkR,hc1]; first | rfl | exact ⟨rfl,rfl⟩ | exact ⟨rfl,rfl,rfl⟩) (by simp) (by simp) ?_
  simp only [puts_some,hdrop]
  refine .e ?_ (by simp (disch:=first|exact zd|fail) [g0,g2,g3,g4,g5,Hr,Hp,He,Ho]; rfl)
  refine hK9 _ ?_
  refine .q ?_
  refine .block ?_
  
  refine .loop (fun N s=>∃ k : Nat,∃ C : List Int,∃ ia : Nat,∃ io : Nat,N = (hitP L).length - k ∧ k ≤ (hitP L).length ∧ (C = pN L i k) ∧ (nx + 1 + 1 < io) ∧ (nx + 1 + 1 < ia) ∧ (ia ≠ io) ∧ s.env 0 = .isl (L.map Sg.cells) ∧ s.env 2 = .ptr nx 0 0 ∧ s.env 3 = .ptr (nx + 1 + 1) 0 0 ∧ s.env 4 = .osl io 0 (i + 1) ∧ s.env 5 = .int .i64 (i : Int) ∧ s.env 6 = .int .i64 (k : Int) ∧ s.heap nx = some (2,[[.nsl,.nsl]]) ∧ nx < s.nx ∧ s.heap (nx + 1 + 1) = some (2,[[.isl ((hitP L).map cellS),.osl (nx + 1) 0 0]]) ∧ (nx + 1 + 1) < s.nx ∧ s.heap (nx + 1) = some (3,[]) ∧ (nx + 1) < s.nx ∧ s.heap io = some (1,onR L i ++ [[.osl ia 0 C.length]]) ∧ io < s.nx ∧ s.heap ia = some (1,wd .i64 C) ∧ ia < s.nx ∧ s.nt = 87) ((hitP L).length) (by refine ⟨0,[],mm,(mm + 1 + 1),by omega,by omega,rfl,by omega,by omega,by omega,?_,?_,?_,?_,?_,?_,?_,?_,?_,?_,?_,?_,?_,?_,?_,?_,rfl⟩ <;> first|(simp (disch:=omega) [g0,g2,g3,g4,g5,Hr,Hp,He,Ho,htkR,onR_len,wd];done)|omega|(simp;done)|(simp;omega)) ?_
  clear g0 g2 g3 g4 g5 Hr xr Hp xp He xe Ho xo hio
  rintro N ⟨e,H,mm,nt⟩ ⟨k,C,ia,io,rfl,hk,hC,hio,hia,hai,g0,g2,g3,g4,g5,g6,Hr,xr,Hp,xp,He,xe,Ho,xo,Ha,xa,rfl⟩
  simp only [] at g0 g2 g3 g4 g5 g6 Hr xr Hp xp He xe Ho xo Ha xa
  refine .sq fun K11 hK11=>?_
  refine .q ?_ (by simp (disch:=first|exact zd|fail) [g0,g2,g3,g4,g5,g6,Hr,Hp,He,Ho,Ha,List.length_map]; rfl)
  refine .c (fun h28=>?_) (fun h28=>?_)
  ·try simp only[dc]at h28
   have hk' : k < (hitP L).length:=by omega
   have hatk : ((hitP L).map cellS)[k]? = some (cellS (gpq L k)):=by rw [List.getElem?_map,gpq_get hk']; rfl
   have haek : ∀ h : k < ((hitP L).map cellS).length,((hitP L).map cellS)[k] = cellS (gpq L k):=fun h=>by rw [List.getElem?_eq_getElem h] at hatk; simpa using hatk
   simp only [cellS,l3C] at hatk haek
   refine .skip ?_
   refine hK11 _ ?_
   refine .sq fun K13 hK13=>?_
   refine .block ?_
   refine .sq fun K14 hK14=>?_
   refine .d 10 ?_
   refine .k 9 (fun fs15 hfs15=>?_) (by simp (disch:=first|exact zd|fail) [List.take_succ_cons,List.take_zero,if_pos,g0,g2,g3,g4,g5,g6,Hr,Hp,He,Ho,Ha,hat2,hae2,hi',hatk,haek,hk',List.length_map]; rfl)
   refine .f (l4OnG gs (gpq L k)) hb100 ?_ (ha:=by simp (disch:=first|exact zd|fail) [idf_Wd',if_pos,g0,g2,g3,g4,g5,g6,Hr,Hp,He,Ho,Ha,hat2,hae2,hi',hatk,haek,hk',List.length_map])
   refine .r 10 (by simp only[ln,hfs15];omega) ?_ (by simp (disch:=first|exact zd|fail) [if_pos,g0,g2,g3,g4,g5,g6,Hr,Hp,He,Ho,Ha,hat2,hae2,hi',hatk,haek,hk',List.length_map]; rfl)
   refine hK14 _ ?_
   refine .c (t:=onF s0 (gpq L k).1) (fun h40=>?_) (fun h40=>?_)
   ·try simp only[dc]at h40
    rw [hs0] at h40
    have hC' : C ++ [(k : Int)] = pN L i (k + 1):=by rw [pN_yes h40,hC]
    have hCl:=pN_len L i k
    rw [← hC] at hCl
    have hd1 : (C.length + 1) * 8 ≤ 140737488355328:=by omega
    have hd2 : C.length ≤ 9223372036854775806:=by omega
    have hwl : (wd .i64 C).length = C.length:=List.length_map _
    have htk : List.take C.length (wd .i64 C) = wd .i64 C:=List.take_of_length_le (Nat.le_of_eq hwl)
    refine .region ?_
    refine .k 8 ?_ (by simp (disch:=first|exact zd|fail) [List.take_succ_cons,List.take_zero,if_pos,g0,g2,g3,g4,g5,g6,Hr,Hp,He,Ho,Ha,onR_len,hoi,hos,hol]; rfl)
    refine AOPS.opapp (by simp (disch:=first|exact zd|fail) [if_pos,wd_append,wd_take,wd_drop,List.nil_append,Ho,Ha,hoi,hos,hol,hd1,hd2,hwl,htk]; first | rfl | exact ⟨rfl,rfl⟩ | exact ⟨rfl,rfl,rfl⟩) (by simp) (by simp) ?_
    simp only [puts_some,hdrop]
    refine .e ?_ (by simp (disch:=first|exact zd|fail) [if_pos,g0,g2,g3,g4,g5,g6,Hr,Hp,He,Ho,Ha,onR_len,hoi,hos,hol]; rfl)
    refine hK13 _ ?_
    refine .r ?_ (by simp (disch:=first|exact zd|fail) [g6]; rfl)
    refine ⟨(hitP L).length - (k + 1),by omega,k + 1,C ++ [(k : Int)],(mm + 10 + 1),io,rfl,by omega,hC',by first|omega|(simp;omega),by first|omega|(simp;omega),by first|omega|(simp;omega),?_,?_,?_,?_,?_,?_,?_,?_,?_,?_,?_,?_,?_,?_,?_,?_,rfl⟩ <;> first|(simp (disch:=omega) [wd_append,List.length_append,hwl,htk,hos,g0,g2,g3,g4,g5,g6,Hr,Hp,He,Ho,Ha];done)|omega|(simp;done)|(simp;omega)
   ·try simp only[dc]at h40
    rw [hs0] at h40
    have hC' : C = pN L i (k + 1):=by rw [pN_no h40]; exact hC
    refine .skip ?_
    refine hK13 _ ?_
    refine .r ?_ (by simp (disch:=first|exact zd|fail) [g6]; rfl)
    refine ⟨(hitP L).length - (k + 1),by omega,k + 1,C,ia,io,rfl,by omega,hC',hio,hia,hai,?_,?_,?_,?_,?_,?_,?_,?_,?_,?_,?_,?_,?_,?_,?_,?_,rfl⟩ <;> first|(simp (disch:=omega) [g0,g2,g3,g4,g5,g6,Hr,Hp,He,Ho,Ha];done)|omega|(simp;done)|(simp;omega)
  ·try simp only[dc]at h28
   have hkn : k = (hitP L).length:=by omega
   subst hkn
   refine .exit ?_
   refine hK8 _ ?_
   refine AWP.frzC io ia 1 1 (wd .i64 C) (onR L i ++ [[.osl ia 0 C.length]]) (onR L (i + 1)) Ha Ho (fun e=>hai e.symm) (by rw [onR_fz,fz_wd rfl,hC,onR_snoc]) ?_
   refine .r ?_ (by simp (disch:=first|exact zd|fail) [g5]; rfl)
   refine ⟨L.length - (i + 1),by omega,i + 1,io,rfl,by omega,by omega,?_,?_,?_,?_,?_,?_,?_,?_,?_,?_,?_,?_,?_,rfl⟩ <;> first|(simp (disch:=omega) [g0,g2,g3,g4,g5,Hr,Hp,He,Ho];done)|omega|(simp;done)|(simp;omega)
 ·try simp only[dc]at h17
  have hin : i = L.length:=by omega
  subst hin
  refine .exit ?_
  refine hK4 _ ?_
  refine .sq fun K16 hK16=>?_
  refine AWP.frz1 4 io 1 (onR L L.length) (.isl (onR L L.length)) Ho (by simp (disch:=omega) [g4,fz,onR_len,onR_take]) ?_
  refine .q ?_
  refine .block ?_
  
  refine .loop (fun N s=>∃ i : Nat,∃ D : List (Ed × Nat),∃ ix : Nat,N = L.length - i ∧ i ≤ L.length ∧ (EdN s.heap (nx + 1) s.nx ix D) ∧ (nx + 1 + 1 ≠ ix) ∧ (∀ p ∈ D,p.2 ≠ nx + 1 + 1) ∧ (D.map (·.1) = insF (evB L (hitP L).length i)) ∧ s.env 0 = .isl (L.map Sg.cells) ∧ s.env 2 = .ptr nx 0 0 ∧ s.env 3 = .ptr (nx + 1 + 1) 0 0 ∧ s.env 4 = .isl (onR L L.length) ∧ s.env 7 = .int .i64 (i : Int) ∧ s.heap nx = some (2,[[.nsl,.nsl]]) ∧ nx < s.nx ∧ s.heap (nx + 1 + 1) = some (2,[[.isl ((hitP L).map cellS),.osl ix 0 D.length]]) ∧ (nx + 1 + 1) < s.nx ∧ s.nt = 87) (L.length) (by refine ⟨0,[],(nx + 1),by omega,by omega,⟨by first|omega|(simp;done)|(simp;omega),by simp (disch:=omega) [He],by simp,by simp⟩,by omega,by simp,rfl,?_,?_,?_,?_,?_,?_,?_,?_,?_,rfl⟩ <;> first|(simp (disch:=omega) [Hr,Hp,He];done)|omega|(simp;done)|(simp;omega)) ?_
  rintro N ⟨e,H,mm,nt⟩ ⟨i,D,ix,rfl,hi,hED,hpx,hpD,hDk,g0,g2,g3,g4,g7,Hr,xr,Hp,xp,rfl⟩
  simp only [] at g0 g2 g3 g4 g7 Hr xr Hp xp
  simp only [] at hED
  refine .sq fun K18 hK18=>?_
  refine .q ?_ (by simp (disch:=first|exact zd|fail) [g0,g7,List.length_map]; rfl)
  refine .c (fun h54=>?_) (fun h54=>?_)
  ·try simp only[dc]at h54
   have hi' : i < L.length:=by omega
   obtain ⟨l,hl⟩ : ∃ l,l = pN L i (hitP L).length:=⟨_,rfl⟩
   have hrow : (onR L L.length)[i]? = some [Wd .i64 l]:=by rw [hl]; exact onR_get hi'
   have hlm : l.length ≤ (hitP L).length:=by rw [hl]; exact pN_len _ _ _
   refine .skip ?_
   refine hK18 _ ?_
   refine .sq fun K20 hK20=>?_
   refine .block ?_
   refine .q ?_
   refine .block ?_
   
   refine .loop (fun N s=>∃ k : Nat,∃ D : List (Ed × Nat),∃ ix : Nat,N = ((hitP L).length + 1) - k ∧ k ≤ ((hitP L).length + 1) ∧ (EdN s.heap (nx + 1) s.nx ix D) ∧ (nx + 1 + 1 ≠ ix) ∧ (∀ p ∈ D,p.2 ≠ nx + 1 + 1) ∧ (1 ≤ k) ∧ (D.map (·.1) = insF (evK L (hitP L).length i k)) ∧ s.env 0 = .isl (L.map Sg.cells) ∧ s.env 2 = .ptr nx 0 0 ∧ s.env 3 = .ptr (nx + 1 + 1) 0 0 ∧ s.env 4 = .isl (onR L L.length) ∧ s.env 7 = .int .i64 (i : Int) ∧ s.env 8 = .int .i64 (k : Int) ∧ s.heap nx = some (2,[[.nsl,.nsl]]) ∧ nx < s.nx ∧ s.heap (nx + 1 + 1) = some (2,[[.isl ((hitP L).map cellS),.osl ix 0 D.length]]) ∧ (nx + 1 + 1) < s.nx ∧ s.nt = 87) (((hitP L).length + 1) - 1) (by refine ⟨1,D,ix,by omega,by omega,hED,hpx,hpD,by omega,by rw [evK_one]; exact hDk,?_,?_,?_,?_,?_,?_,?_,?_,?_,?_,rfl⟩ <;> first|(simp (disch:=omega) [g0,g2,g3,g4,g7,Hr,Hp];done)|omega|(simp;done)|(simp;omega)) ?_
   clear g0 g2 g3 g4 g7 Hr xr Hp xp hED hpx hpD hDk
   rintro N ⟨e,H,mm,nt⟩ ⟨k,D,ix,rfl,hk,hED,hpx,hpD,hk1,hDk,g0,g2,g3,g4,g7,g8,Hr,xr,Hp,xp,rfl⟩
   simp only [] at g0 g2 g3 g4 g7 g8 Hr xr Hp xp
   simp only [] at hED
   refine .sq fun K22 hK22=>?_
   refine .q ?_ (by simp (disch:=first|exact zd|fail) [if_pos,g0,g2,g3,g4,g7,g8,Hr,Hp,hrow,onR_len]; rfl)
   refine .c (fun h63=>?_) (fun h63=>?_)
   ·try simp only[dc]at h63
    refine .skip ?_
    refine hK22 _ ?_
    refine .sq fun K24 hK24=>?_
    refine .block ?_
    have hkl : k < l.length:=by omega
    have hkL:=hkl
    rw [hl] at hkL
    have hAl : (evK L (hitP L).length i k).length ≤ 67200:=Nat.le_trans (evK_len _ _ _ _) (Nat.le_trans (Nat.mul_le_mul (show i + 1 ≤ 40 by omega) hpb) (by decide))
    have hDl : D.length ≤ 1048576:=by have h:=insF_len (evK L (hitP L).length i k); rw [← hDk,List.length_map] at h; omega
    have hDs : ∀ p ∈ D,p.1.2.length ≤ 1048576:=fun p hp=>by have h:=insF_seg (A:=evK L (hitP L).length i k) (e:=p.1) (by rw [← hDk]; exact List.mem_map_of_mem hp); omega
    have ek1 : ((k : Int) - 1).toNat = k - 1:=by omega
    have hk2 : ¬ (k : Int) - 1 < 0:=by omega
    have hED2:=hED.mono (hi':=mm + 18) (by omega) (fun _ _ _=>rfl)
    refine AWP.drawT 18 Tryz.checked.mixed (by kernel_rfl) (by kernel_rfl) ?_
    simp only [List.take_succ_cons,List.take_zero,List.drop_succ_cons,List.drop_zero]
    refine .k 18 (fun fs25 hfs25=>?_) (by simp (disch:=first|exact zd|fail) [List.take_succ_cons,List.take_zero,if_pos,g0,g2,g3,g4,g7,g8,Hr,Hp,hrow]; rfl)
    simp only [DP]
    refine .a (l9Put_ac D (gt l (k - 1)) (gt l k) i (nx + 1) ix H (mm + 18) hED2 hDl hDs) hb101 ?_ (ha:=by simp (disch:=first|exact zd|fail) [idf_Wd',if_pos,g0,g2,g3,g4,g7,g8,Hr,Hp,hrow])
    rintro _ H' nx' ⟨ix',D',rfl,hED',hDi,hnx',hfr⟩
    have hp' : H' (nx + 1 + 1) = some (2,[[.isl ((hitP L).map cellS),.osl ix 0 D.length]]):=by rw [hfr _ (by omega) hpx (fun p hp e=>hpD p hp e.symm)]; exact Hp
    have hr' : H' nx = some (2,[[.nsl,.nsl]]):=by rw [hfr _ (by omega) (by have:=hED.ixr; omega) (fun p hp e=>by have:=(hED.fr p hp).1; omega)]; exact Hr
    have hpx' : nx + 1 + 1 ≠ ix':=fun e=>by have h:=hED'.top; rw [← e,hp'] at h; simp at h
    have hpD' : ∀ p ∈ D',p.2 ≠ nx + 1 + 1:=fun p hp e=>by have h:=(hED'.fr p hp).2.2.2; rw [e,hp'] at h; simp at h
    have hDk' : D'.map (·.1) = insF (evK L (hitP L).length i (k + 1)):=by rw [hDi,hDk,← insF_snoc,← evK_step hk1 (by rw [← hl]; exact hkl),hl]
    have hED' : EdN (hupd H' (nx + 1 + 1) (some (2,[[.isl ((hitP L).map cellS),.osl ix' 0 D'.length]]))) (nx + 1) nx' ix' D':=⟨hED'.ixr,by rw [hupd_ne _ _ _ _ hpx'.symm]; exact hED'.top,fun p hp=>by obtain ⟨a,b,c,d⟩:=hED'.fr p hp; exact ⟨a,b,c,by rw [hupd_ne _ _ _ _ (hpD' p hp)]; exact d⟩,hED'.inj⟩
    refine .e ?_ (by simp (disch:=first|exact zd|fail) [if_pos,g3,hp']; rfl)
    refine hK24 _ ?_
    refine .r ?_ (by simp (disch:=first|exact zd|fail) [g8]; rfl)
    refine ⟨((hitP L).length + 1) - (k + 1),by omega,k + 1,D',ix',rfl,by omega,hED',hpx',hpD',by omega,hDk',?_,?_,?_,?_,?_,?_,?_,?_,?_,?_,rfl⟩ <;> first|(simp (disch:=omega) [g0,g2,g3,g4,g7,g8,hr',Hp];done)|omega|(simp;done)|(simp;omega)
   ·try simp only[dc]at h63
    have hDk' : D.map (·.1) = insF (evB L (hitP L).length (i + 1)):=by rw [hDk,evK_end (by rw [← hl]; omega)]
    refine .exit ?_
    refine hK20 _ ?_
    refine .r ?_ (by simp (disch:=first|exact zd|fail) [g7]; rfl)
    refine ⟨L.length - (i + 1),by omega,i + 1,D,ix,rfl,by omega,hED,hpx,hpD,hDk',?_,?_,?_,?_,?_,?_,?_,?_,?_,rfl⟩ <;> first|(simp (disch:=omega) [g0,g2,g3,g4,g7,Hr,Hp];done)|omega|(simp;done)|(simp;omega)
  ·try simp only[dc]at h54
   have hin : i = L.length:=by omega
   subst hin
   refine .exit ?_
   refine hK16 _ ?_
   refine .q ?_ (by simp (disch:=first|exact zd|fail) [g2,g3,Hr,Hp]; rfl)
   refine .ret ?_
   exact hK _ _ _ _ _ trivial (Fin.mk (by simp [aRes,aResL,aRes1,g2]; try rfl)) (⟨ix,D,rfl,hED.mono (Nat.le_refl _) (fun k h1 h2=>by simp (disch:=omega)),by rw [hDk]; rfl⟩)
end

end Go.Proofs.YtjbbbkfdcegfmaaGreat
