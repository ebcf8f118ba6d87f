/- Walks: the plan of right segments. -/
import Derived.Test.YtjbbbkfdcegfmaaGreatG11
import Derived.Test.YtjbbbkfdcegfmaaGreatG13
import Derived.Test.YtjbbbkfdcegfmaaGreatG19

namespace Go.Proofs.YtjbbbkfdcegfmaaGreat
open Go Go.RowKit
set_option linter.unusedSimpArgs false
set_option linter.unusedVariables false
set_option maxRecDepth 100000
attribute [local simp] szT2 byT2 agT2 unT2 zoT2 szT3 byT3 agT3 unT3 zoT3 szT24 byT24 agT24 elT24 unT24 zoT24 szT27 byT27 agT27 elT27 unT27 zoT27 szT37 byT37 agT37 elT37 unT37 zoT37 szT38 byT38 agT38 elT38 unT38 zoT38 szT40 byT40 agT40 flT40 fdT40_0 fdT40_1 zoT40 szT60 byT60 agT60 flT60 fdT60_0 fdT60_1 fdT60_2 fdT60_3 zoT60 szT62 byT62 agT62 flT62 fdT62_0 fdT62_1 fdT62_2 zoT62 szT81 byT81 agT81 flT81 fdT81_0 fdT81_1 fdT81_2 zoT81 szT85 byT85 agT85 flT85 fdT85_0 fdT85_1 zoT85 szT145 byT145 agT145 elT145 unT145 zoT145 szT148 byT148 agT148 flT148 fdT148_0 fdT148_1 zoT148 szT149 byT149 agT149 flT149 arT149 zoT149 srT24 ixT24 lnT24 srT27 srT37 srT38 srT145

theorem idf_edL (L : List Sg) : idf (.agg [.isl ((hitP L).map cellS),.isl ((edL L).map edC)]):=by
  simp only [idf,idfL,idfLL_iff,List.mem_map,and_true]
  constructor
  · rintro x ⟨g,_,rfl⟩; simp [cellS,l3C,idfL,idf,idf_Wd']
  · rintro x ⟨e,_,rfl⟩; simp [edC,idfL,idf,idf_Wd']
theorem l9Plan_fc (L : List Sg) (z1 : L.length ≤ 40) (z2 : ∀ s ∈ L,s.good = true) : FC Tryz.prog 59 [.isl (L.map Sg.cells)] (.agg [.isl ((hitP L).map cellS),.isl ((edL L).map edC)]) :=
  FC.of_lv 4 (by simp [idfL,idf,idfLL_iff,Sg.cells]) (idf_edL L) (l9Plan_ac L z1 z2) fun nx v H nx' ⟨ix,D,e,hE,hD⟩ w β b u hu=>by
    subst e
    have e : lv H 4 (.agg [.isl ((hitP L).map cellS),.osl ix 0 D.length]) = .agg [.isl ((hitP L).map cellS),.isl ((edL L).map edC)]:=by
      rw [lv,List.map_cons,List.map_cons,List.map_nil,lv_cellS H 1,hE.lv 1,← hD,List.map_map]; rfl
    rwa [e] at hu
theorem i64_wf {n : Int} (h : -9223372036854775808 ≤ n ∧ n ≤ 9223372036854775807) : (Lit.int .i64 n).wf = true:=by
  have e1 : IntKind.i64.min = -9223372036854775808:=rfl
  have e2 : IntKind.i64.max = 9223372036854775807:=rfl
  simp only [Lit.wf,e1,e2,Bool.and_eq_true,decide_eq_true_eq]; omega
theorem kl_i64 {P : Program} {t : TypeId} (hu : P.underlying t = some (.int .i64)) (d : Nat) {n : Int} (h : (Lit.int .i64 n).wf = true) : P.keyLits (d + 1) t [.int .i64 n] = some [.int .i64 n]:=by
  unfold Program.keyLits
  rw [hu]
  simp [h]
def okE (a : Ek) : Prop:=(-9223372036854775808 ≤ a.1 ∧ a.1 ≤ 9223372036854775807) ∧ -9223372036854775808 ≤ a.2 ∧ a.2 ≤ 9223372036854775807
def kvE (a : Ek) : AV:=.agg [.int .i64 a.1,.int .i64 a.2]
theorem ek_lits {a : Ek} (h : okE a) (d : Nat) : ∃ ls,Tryz.prog.keyLits (d + 1 + 1) 149 [.int .i64 a.1,.int .i64 a.2] = some ls:=by
  have e : Tryz.prog.cellsOf 2 = 1:=by kernel_rfl
  have e2 : Tryz.prog.cellsOf 149 = 2:=by kernel_rfl
  refine ⟨[.int .i64 a.1,.int .i64 a.2],?_⟩
  unfold Program.keyLits
  rw [Tryz.underlying149]
  have k1:=kl_i64 (P:=Tryz.prog) Tryz.underlying2 d (i64_wf h.1)
  have k2:=kl_i64 (P:=Tryz.prog) Tryz.underlying2 d (i64_wf h.2)
  simp [e,e2,List.range_succ,k1,k2]
theorem keyE : KeyT Tryz.prog 149 okE kvE:=by
  have k:=fun (a : Ek) (u : Value) (h : PV (kvE a) u)=>pv_agg (xs:=[.int .i64 a.1,.int .i64 a.2]) rfl h
  refine ⟨deep_law (m:=4) (by omega) (by kernel_rfl) (by kernel_rfl) (by rw [Tryz.underlying149]),fun a u ho hu=>?_,fun a u v h1 h2=>?_,fun a c u h1 h2=>?_⟩
  · have hu':=k a u hu
    obtain ⟨ls,hls⟩:=ek_lits ho (Tryz.prog.types.size - 1)
    have hs : Tryz.prog.types.size - 1 + 1 + 1 = Tryz.prog.types.size + 1:=by kernel_rfl
    rw [hs] at hls
    refine ⟨.string (keyBytes ls),?_⟩
    have e1 : Tryz.prog.keyType 149 = true:=by kernel_rfl
    have e2 : (Value.agg ([AV.int .i64 a.1,.int .i64 a.2].map rv).toArray).formed Tryz.prog 149 = true:=by kernel_rfl
    rw [hu']
    unfold keyOf
    rw [Tryz.underlying149]
    simp only [e1,e2,Bool.and_self,if_true,Value.cells]
    simp only [List.map_cons,List.map_nil,rv]
    rw [hls]; rfl
  · rw [k a u h1,k a v h2]
  · have:=(k a u h1).symm.trans (k c u h2)
    simp only [Value.agg.injEq,List.map_cons,List.map_nil,rv] at this
    have e:=congrArg Array.toList this
    simp only [List.cons.injEq,Value.int.injEq,true_and,and_true] at e
    exact Prod.ext e.1 e.2
theorem zvI : zv1 Tryz.prog 3 (.int .i64 0):=zv1_of (z:=.int .i64 0) (by kernel_rfl) (fun _ _ _=>rfl)
theorem unME : Tryz.prog.underlying 144 = some (.map 149 3):=Tryz.underlying144
theorem memE_nil : memE [] = fun _=>none:=by funext k; simp [memE]
/-- The first i are -1. -/
def mOne (n i : Nat) : List Int:=List.replicate i (-1) ++ List.replicate (n - i) 0
theorem mOne_len {n i : Nat} (h : i ≤ n) : (mOne n i).length = n:=by simp [mOne]; omega
theorem mOne_set {n i : Nat} (h : i < n) : (mOne n i).set i (-1) = mOne n (i + 1):=by
  obtain ⟨k,rfl⟩ : ∃ k,n = i + 1 + k:=⟨n - i - 1,by omega⟩
  unfold mOne
  rw [List.set_append_right _ _ (by simp),show i + 1 + k - i = k + 1 by omega,show i + 1 + k - (i + 1) = k by omega,List.replicate_succ (n:=k)]
  simp [List.replicate_succ',List.append_assoc]
theorem mOne_end (L : List Sg) : mOne L.length L.length = lasL L 0 []:=by rw [lasL_zero]; simp [mOne]
theorem mOne_zero (n : Nat) : mOne n 0 = List.replicate n 0:=by simp [mOne]
/-- The points told so far: none, or a row of one's own. -/
def PtV (L : List Sg) (H : Heap) (lo hi v : Nat) (pv : AV) : Prop:=(v = 0 ∧ pv = .nsl) ∨ ∃ iq,v ≠ 0 ∧ pv = .osl iq 0 v ∧ H iq = some (12,((hitP L).take v).map cellsG) ∧ lo ≤ iq ∧ iq < hi
/-- The edges so far. -/
def EdV (H : Heap) (lo hi : Nat) (ev : AV) (D : List (Ed × Nat)) : Prop:=(D = [] ∧ ev = .nsl) ∨ ∃ ix,D ≠ [] ∧ ev = .osl ix 0 D.length ∧ EdN H lo hi ix D
theorem EdN.to {H H' : Heap} {lo lo' hi hi' ix : Nat} {D : List (Ed × Nat)} (h : EdN H lo hi ix D) (hl : lo' ≤ lo) (hh : hi ≤ hi') (he : ∀ k,lo ≤ k → k < hi → (∀ es,H k ≠ some (12,es)) → H' k = H k) : EdN H' lo' hi' ix D :=
  ⟨⟨Nat.le_trans hl h.ixr.1,by have:=h.ixr.2; omega⟩,by rw [he ix h.ixr.1 h.ixr.2 (by rw [h.top]; intro es e; simp at e)]; exact h.top,fun p hp=>by
    obtain ⟨a,b,c,d⟩:=h.fr p hp
    exact ⟨by omega,by omega,c,by rw [he p.2 a b (by rw [d]; intro es e; simp at e)]; exact d⟩,h.inj⟩
theorem EdV.to {H H' : Heap} {lo lo' hi hi' : Nat} {ev : AV} {D : List (Ed × Nat)} (h : EdV H lo hi ev D) (hl : lo' ≤ lo) (hh : hi ≤ hi') (he : ∀ k,lo ≤ k → k < hi → (∀ es,H k ≠ some (12,es)) → H' k = H k) : EdV H' lo' hi' ev D :=
  h.imp (fun h=>h) fun ⟨ix,h1,h2,h3⟩=>⟨ix,h1,h2,h3.to hl hh he⟩
theorem EdV.len {P : Program} {H : Heap} {lo hi : Nat} {ev : AV} {D : List (Ed × Nat)} (h : EdV H lo hi ev D) {t e : TypeId} (he : elOf P t = some e) (E : Nat → AV) (nx nt : Nat) : aBi P ⟨E,H,nx,nt⟩ .len #[t] [ev] = some (.int .i64 D.length):=by
  rcases h with ⟨rfl,rfl⟩ | ⟨ix,h1,rfl,h3⟩ <;> simp [aBi,he]
  rw [h3.top]; simp
theorem EdV.osl {H : Heap} {lo hi : Nat} {ev : AV} {D : List (Ed × Nat)} (h : EdV H lo hi ev D) (hD : D ≠ []) : ∃ ix,ev = .osl ix 0 D.length ∧ EdN H lo hi ix D:=by
  rcases h with ⟨h,_⟩ | ⟨ix,_,h2,h3⟩
  · exact absurd h hD
  · exact ⟨ix,h2,h3⟩

theorem hitRl (L : List Sg) : (hitR L).length = (hitP L).length:=List.length_map _
theorem zoME : zOf Tryz.prog 144 = some [.junk]:=by kernel_rfl
theorem szME : szOf Tryz.prog 144 = some 1:=by kernel_rfl
theorem agME : aggT Tryz.prog 144 = some false:=by kernel_rfl
theorem PtV.to {L : List Sg} {H H' : Heap} {lo lo' hi hi' v : Nat} {pv : AV} (h : PtV L H lo hi v pv) (hl : lo' ≤ lo) (hh : hi ≤ hi') (he : ∀ k es,lo ≤ k → k < hi → H k = some (12,es) → H' k = some (12,es)) : PtV L H' lo' hi' v pv :=
  h.imp (fun h=>h) fun ⟨iq,a,b,c,d,e⟩=>⟨iq,a,b,he _ _ d e c,by omega,by omega⟩
theorem eclTT (D : List (Ed × Nat)) : (∀ c ∈ D.map ecl,c.length = 3 ∧ ∀ x ∈ c,avOne x = true) = True:=by
  simp only [eq_iff_iff,iff_true]
  intro c hc
  obtain ⟨p,_,rfl⟩:=List.mem_map.1 hc
  exact ⟨rfl,by simp [ecl,avOne]⟩
theorem edN_one {H : Heap} {lo hi ix i : Nat} {e : Ed} (h1 : lo ≤ ix) (h2 : ix < hi) (h3 : i < hi) (h4 : lo ≤ i ∧ i ≠ ix) (h5 : H i = some (1,wd .i64 e.2)) (h6 : H ix = some (3,[ecl (e,i)])) : EdN H lo hi ix [(e,i)] :=
  ⟨⟨h1,h2⟩,h6,fun p hp=>by rw [List.mem_singleton] at hp; subst hp; exact ⟨h4.1,h3,h4.2,h5⟩,by simp⟩
theorem EdN.push {H H' : Heap} {lo hi hi' ix ix' : Nat} {D : List (Ed × Nat)} (h : EdN H lo hi ix D) {x : Nat} {e : Ed} (hx : hi ≤ x) (hx' : x < hi') (hi1 : hi ≤ ix') (hi2 : ix' < hi') (hne : x ≠ ix') (h1 : H' x = some (1,wd .i64 e.2)) (h2 : H' ix' = some (3,D.map ecl ++ [ecl (e,x)])) (he : ∀ k,lo ≤ k → k < hi → k ≠ ix → H' k = H k) : EdN H' lo hi' ix' (D ++ [(e,x)]):=by
  have e1 : List.take D.length (D.map ecl) = D.map ecl:=List.take_of_length_le (by simp)
  have e2 : List.drop D.length (D.map ecl) = []:=List.drop_of_length_le (by simp)
  have:=h.ins D.length (x:=x) (e:=e) hx hx' hi1 hi2 hne h1 (by rw [h2,e1,e2]) he
  rwa [List.take_length,List.drop_length] at this
theorem sortInt_ac (l : List Int) (n id : Nat) (HP : Heap) (nx : Nat) (hn : l.length = n) (hH : HP id = some (1,wd .i64 l)) (h0 : 0 < n) (hl : n ≤ 1099511627776) (hs : l.Pairwise (· < ·)) : ACall Tryz.prog 105 [.osl id 0 n] HP nx (fun r H' nx'=>r = .tup [] ∧ H' = HP ∧ nx ≤ nx') :=
  ACall.mono (sortI_ac sortI_lay l n id HP nx hn hH h0 hl) fun r H' nx' ⟨a,b,c⟩=>⟨a,by
    rw [b,sorted_self (hs.imp fun h=>Int.le_of_lt h)]
    funext j; unfold hupd; split
    · rename_i e; rw [e,hH]
    · rfl,c⟩
theorem sortEdZ_ac (HP : Heap) (nx : Nat) : ACall Tryz.prog 106 [.nsl,.fn 107 []] HP nx (fun r H' nx'=>r = .tup [] ∧ nx' = nx ∧ H' = HP):=sortZ_ac sortEd_lay 107 [] HP nx

section
attribute [local simp] idf_numS cells_numS numS_fold idf_numI cells_numI numI_fold Sp.av Sp.cells Sg.av Sg.cells Pt.av Pt.cells
set_option maxHeartbeats 16000000 in
theorem plan_ac (L : List Sg) (z1 : L.length ≤ 40) (z2 : ∀ s ∈ L,s.good = true) (nx : Nat) : ACall Tryz.prog 63 [.isl (L.map Sg.cells)] (fun _=>none) nx (fun r H' nx'=>∃ pv ev D,r = .agg [pv,ev] ∧ PtV L H' nx nx' (hitP L).length pv ∧ EdV H' nx nx' ev D ∧ D.map (·.1) = edL L):=by
 have hpb : (hitP L).length ≤ 1680:=by rw [hitP_len]; exact ded_b z1 (Nat.le_refl _)
 refine .mb okE kvE Tryz.func63 121 fun K hK=>?_
 refine .q ?_
 refine .sq fun K2 hK2=>?_
 refine MWP.inv Tryz.checked.mixed (by kernel_rfl) (fun LL s MM=>(s.env 0 = .isl (L.map Sg.cells)) ∧ (s.env 2 = .ptr nx 0 0) ∧ (s.nt = 121) ∧ (s.heap nx = some (2,[[.nsl,.nsl]])) ∧ (nx < s.nx) ∧ (LL 0 = true → s.env 16 = .agg [.nsl,.nsl]) ∧ (LL 1 = true → s.env 17 = .isl (L.map Sg.cells)) ∧ (LL 2 = true → s.env 18 = .int .i64 (L.length : Int)) ∧ (LL 3 = true → ∃ il : Nat,s.env 19 = .osl il 0 L.length ∧ s.heap il = some (1,wd .i64 (List.replicate L.length 0)) ∧ nx < il ∧ il < s.nx) ∧ (LL 4 = true → ∃ mp : Nat,s.env 20 = .raw (.map (some mp)) ∧ MM mp = some (fun _=>none)) ∧ (LL 5 = true → ∃ ip : Nat,s.env 3 = .ptr ip 0 0 ∧ s.heap ip = some (2,[[.nsl,.nsl]]) ∧ nx < ip ∧ ip < s.nx) ∧ (LL 7 = true → ∃ il : Nat,s.env 4 = .osl il 0 L.length ∧ s.heap il = some (1,wd .i64 (List.replicate L.length 0)) ∧ nx < il ∧ il < s.nx) ∧ (LL 8 = true → ∃ mp : Nat,s.env 5 = .raw (.map (some mp)) ∧ MM mp = some (fun _=>none))) (⟨by first|(simp (disch:=omega) [True.intro];done)|omega|(simp;done)|(simp;omega)|(simp (disch:=omega) [True.intro] <;> omega),by first|(simp (disch:=omega) [True.intro];done)|omega|(simp;done)|(simp;omega)|(simp (disch:=omega) [True.intro] <;> omega),rfl,by first|(simp (disch:=omega) [True.intro];done)|omega|(simp;done)|(simp;omega)|(simp (disch:=omega) [True.intro] <;> omega),by first|(simp (disch:=omega) [True.intro];done)|omega|(simp;done)|(simp;omega)|(simp (disch:=omega) [True.intro] <;> omega),fun h=>by simp at h,fun h=>by simp at h,fun h=>by simp at h,fun h=>by simp at h,fun h=>by simp at h,fun h=>by simp at h,fun h=>by simp at h,fun h=>by simp at h⟩) ?_ ?_
 ·rintro LL ⟨e,H,mm,nt⟩ MM x o hC ⟨b0,b2,hnt,hr,hmx,c0,c1,c2,c3,c4,c5,c7,c8⟩ hxx hoo hpp
  simp only [] at b0 b2 hnt hr hmx c0 c1 c2 c3 c4 c5 c7 c8
  subst hnt
  rcases x with _ | _ | _ | _ | _ | _ | _ | _ | _ | x
  all_goals first|(simp only [List.getElem?_toArray,List.getElem?_cons_zero,List.getElem?_cons_succ,Option.some.injEq] at hoo;subst hoo;try simp only [Nat.zero_add,Nat.reduceAdd] at hxx ⊢)|(simp at hoo;done)
  ·refine MOPS.k 1 ?_
   refine .e ?_ (by simp (disch:=first|exact zd|fail) [if_pos,b0,b2,hr,hmx,szME,agME,zoME,avCM,avOM]; rfl)
   refine MOPS.nil ?_
   refine ⟨?_,?_,rfl,?_,?_,fun _=>?_,?_,?_,fun h=>by obtain ⟨il,k⟩:=c3 (by rwa [upL_ne LL (by decide)] at h); first | exact ⟨il,k⟩ | (refine ⟨il,?_⟩; simp (disch:=omega) [k] <;> omega),fun h=>by obtain ⟨mp,k⟩:=c4 (by rwa [upL_ne LL (by decide)] at h); first | exact ⟨mp,k⟩ | (refine ⟨mp,?_⟩; simp (disch:=omega) [k] <;> omega),fun h=>by obtain ⟨ip,k⟩:=c5 (by rwa [upL_ne LL (by decide)] at h); first | exact ⟨ip,k⟩ | (refine ⟨ip,?_⟩; simp (disch:=omega) [k] <;> omega),fun h=>by obtain ⟨il,k⟩:=c7 (by rwa [upL_ne LL (by decide)] at h); first | exact ⟨il,k⟩ | (refine ⟨il,?_⟩; simp (disch:=omega) [k] <;> omega),fun h=>by obtain ⟨mp,k⟩:=c8 (by rwa [upL_ne LL (by decide)] at h); first | exact ⟨mp,k⟩ | (refine ⟨mp,?_⟩; simp (disch:=omega) [k] <;> omega)⟩ <;> first|omega|assumption|(simp (disch:=omega) [b0,b2,hr,hmx,szME,agME,zoME,avCM,avOM,upL] <;> first|assumption|omega)
  ·refine MOPS.k 1 ?_
   refine .e ?_ (by simp (disch:=first|exact zd|fail) [if_pos,b0,b2,hr,hmx,szME,agME,zoME,avCM,avOM]; rfl)
   refine MOPS.nil ?_
   refine ⟨?_,?_,rfl,?_,?_,?_,fun _=>?_,?_,fun h=>by obtain ⟨il,k⟩:=c3 (by rwa [upL_ne LL (by decide)] at h); first | exact ⟨il,k⟩ | (refine ⟨il,?_⟩; simp (disch:=omega) [k] <;> omega),fun h=>by obtain ⟨mp,k⟩:=c4 (by rwa [upL_ne LL (by decide)] at h); first | exact ⟨mp,k⟩ | (refine ⟨mp,?_⟩; simp (disch:=omega) [k] <;> omega),fun h=>by obtain ⟨ip,k⟩:=c5 (by rwa [upL_ne LL (by decide)] at h); first | exact ⟨ip,k⟩ | (refine ⟨ip,?_⟩; simp (disch:=omega) [k] <;> omega),fun h=>by obtain ⟨il,k⟩:=c7 (by rwa [upL_ne LL (by decide)] at h); first | exact ⟨il,k⟩ | (refine ⟨il,?_⟩; simp (disch:=omega) [k] <;> omega),fun h=>by obtain ⟨mp,k⟩:=c8 (by rwa [upL_ne LL (by decide)] at h); first | exact ⟨mp,k⟩ | (refine ⟨mp,?_⟩; simp (disch:=omega) [k] <;> omega)⟩ <;> first|omega|assumption|(simp (disch:=omega) [b0,b2,hr,hmx,szME,agME,zoME,avCM,avOM,upL] <;> first|assumption|omega)
  ·have fc1:=c1 (hpp 1 (by simp [pre,Region.binds]))
   refine MOPS.k 1 ?_
   refine .e ?_ (by simp (disch:=first|exact zd|fail) [if_pos,b0,b2,hr,hmx,fc1,szME,agME,zoME,avCM,avOM]; rfl)
   refine MOPS.nil ?_
   refine ⟨?_,?_,rfl,?_,?_,?_,?_,fun _=>?_,fun h=>by obtain ⟨il,k⟩:=c3 (by rwa [upL_ne LL (by decide)] at h); first | exact ⟨il,k⟩ | (refine ⟨il,?_⟩; simp (disch:=omega) [k] <;> omega),fun h=>by obtain ⟨mp,k⟩:=c4 (by rwa [upL_ne LL (by decide)] at h); first | exact ⟨mp,k⟩ | (refine ⟨mp,?_⟩; simp (disch:=omega) [k] <;> omega),fun h=>by obtain ⟨ip,k⟩:=c5 (by rwa [upL_ne LL (by decide)] at h); first | exact ⟨ip,k⟩ | (refine ⟨ip,?_⟩; simp (disch:=omega) [k] <;> omega),fun h=>by obtain ⟨il,k⟩:=c7 (by rwa [upL_ne LL (by decide)] at h); first | exact ⟨il,k⟩ | (refine ⟨il,?_⟩; simp (disch:=omega) [k] <;> omega),fun h=>by obtain ⟨mp,k⟩:=c8 (by rwa [upL_ne LL (by decide)] at h); first | exact ⟨mp,k⟩ | (refine ⟨mp,?_⟩; simp (disch:=omega) [k] <;> omega)⟩ <;> first|omega|assumption|(simp (disch:=omega) [b0,b2,hr,hmx,fc1,szME,agME,zoME,avCM,avOM,upL] <;> first|assumption|omega)
  ·have fc2:=c2 (hpp 2 (by simp [pre,Region.binds]))
   refine MOPS.k 1 ?_
   refine .e ?_ (by simp (disch:=first|exact zd|fail) [if_pos,b0,b2,hr,hmx,fc2,szME,agME,zoME,avCM,avOM]; rfl)
   refine MOPS.nil ?_
   refine ⟨?_,?_,rfl,?_,?_,?_,?_,?_,fun _=>⟨mm,by simp (disch:=omega) <;> first | omega | assumption⟩,fun h=>by obtain ⟨mp,k⟩:=c4 (by rwa [upL_ne LL (by decide)] at h); first | exact ⟨mp,k⟩ | (refine ⟨mp,?_⟩; simp (disch:=omega) [k] <;> omega),fun h=>by obtain ⟨ip,k⟩:=c5 (by rwa [upL_ne LL (by decide)] at h); first | exact ⟨ip,k⟩ | (refine ⟨ip,?_⟩; simp (disch:=omega) [k] <;> omega),fun h=>by obtain ⟨il,k⟩:=c7 (by rwa [upL_ne LL (by decide)] at h); first | exact ⟨il,k⟩ | (refine ⟨il,?_⟩; simp (disch:=omega) [k] <;> omega),fun h=>by obtain ⟨mp,k⟩:=c8 (by rwa [upL_ne LL (by decide)] at h); first | exact ⟨mp,k⟩ | (refine ⟨mp,?_⟩; simp (disch:=omega) [k] <;> omega)⟩ <;> first|omega|assumption|(simp (disch:=omega) [b0,b2,hr,hmx,fc2,szME,agME,zoME,avCM,avOM,upL] <;> first|assumption|omega)
  ·refine .make rfl (by simp) rfl (by simp) fun m hmn=>?_
   refine MOPS.nil ?_
   refine ⟨?_,?_,rfl,?_,?_,?_,?_,?_,fun h=>by obtain ⟨il,k⟩:=c3 (by rwa [upL_ne LL (by decide)] at h); first | exact ⟨il,k⟩ | (refine ⟨il,?_⟩; simp (disch:=omega) [k] <;> omega),fun _=>⟨m,by simp (disch:=omega) <;> first | omega | assumption⟩,fun h=>by obtain ⟨ip,k⟩:=c5 (by rwa [upL_ne LL (by decide)] at h); first | exact ⟨ip,k⟩ | (refine ⟨ip,?_⟩; simp (disch:=omega) [k] <;> omega),fun h=>by obtain ⟨il,k⟩:=c7 (by rwa [upL_ne LL (by decide)] at h); first | exact ⟨il,k⟩ | (refine ⟨il,?_⟩; simp (disch:=omega) [k] <;> omega),fun h=>by rw [upL_ne LL (by decide)] at h; obtain ⟨mp,k0,k1⟩:=c8 h; have ne : mp ≠ m:=(fun e=>by rw [e,hmn] at k1; simp at k1); exact ⟨mp,by simp [k0],by simp [ne,k1]⟩⟩ <;> first|omega|assumption|(simp (disch:=omega) [b0,b2,hr,hmx,szME,agME,zoME,avCM,avOM,upL] <;> first|assumption|omega)
  ·refine MOPS.k 1 ?_
   refine .e ?_ (by simp (disch:=first|exact zd|fail) [if_pos,b0,b2,hr,hmx,szME,agME,zoME,avCM,avOM]; rfl)
   refine MOPS.nil ?_
   refine ⟨?_,?_,rfl,?_,?_,?_,?_,?_,fun h=>by obtain ⟨il,k⟩:=c3 (by rwa [upL_ne LL (by decide)] at h); first | exact ⟨il,k⟩ | (refine ⟨il,?_⟩; simp (disch:=omega) [k] <;> omega),fun h=>by obtain ⟨mp,k⟩:=c4 (by rwa [upL_ne LL (by decide)] at h); first | exact ⟨mp,k⟩ | (refine ⟨mp,?_⟩; simp (disch:=omega) [k] <;> omega),fun _=>⟨mm,by simp (disch:=omega) <;> first | omega | assumption⟩,fun h=>by obtain ⟨il,k⟩:=c7 (by rwa [upL_ne LL (by decide)] at h); first | exact ⟨il,k⟩ | (refine ⟨il,?_⟩; simp (disch:=omega) [k] <;> omega),fun h=>by obtain ⟨mp,k⟩:=c8 (by rwa [upL_ne LL (by decide)] at h); first | exact ⟨mp,k⟩ | (refine ⟨mp,?_⟩; simp (disch:=omega) [k] <;> omega)⟩ <;> first|omega|assumption|(simp (disch:=omega) [b0,b2,hr,hmx,szME,agME,zoME,avCM,avOM,upL] <;> first|assumption|omega)
  ·have fc0:=c0 (hpp 0 (by simp [pre,Region.binds]))
   have fc5:=c5 (hpp 5 (by simp [pre,Region.binds]))
   obtain ⟨ip,f3,fhp,fl,fu⟩:=id fc5
   have fself : hupd H ip (some (2,[[.nsl,.nsl]])) = H:=by
     funext j; unfold hupd; split
     · rename_i e; rw [e,fhp]
     · rfl
   refine MOPS.k 1 ?_
   refine .e ?_ (by simp (disch:=first|exact zd|fail) [if_pos,b0,b2,hr,hmx,fc0,fc5,f3,fhp,fself,szME,agME,zoME,avCM,avOM]; rfl)
   refine MOPS.nil ?_
   refine ⟨?_,?_,rfl,?_,?_,?_,?_,?_,fun h=>by obtain ⟨il,k⟩:=c3 (by rwa [upL_ne LL (by decide)] at h); first | exact ⟨il,k⟩ | (refine ⟨il,?_⟩; simp (disch:=omega) [k,fself] <;> omega),fun h=>by obtain ⟨mp,k⟩:=c4 (by rwa [upL_ne LL (by decide)] at h); first | exact ⟨mp,k⟩ | (refine ⟨mp,?_⟩; simp (disch:=omega) [k,fself] <;> omega),fun h=>by obtain ⟨ip,k⟩:=c5 (by rwa [upL_ne LL (by decide)] at h); first | exact ⟨ip,k⟩ | (refine ⟨ip,?_⟩; simp (disch:=omega) [k,fself] <;> omega),fun h=>by obtain ⟨il,k⟩:=c7 (by rwa [upL_ne LL (by decide)] at h); first | exact ⟨il,k⟩ | (refine ⟨il,?_⟩; simp (disch:=omega) [k,fself] <;> omega),fun h=>by obtain ⟨mp,k⟩:=c8 (by rwa [upL_ne LL (by decide)] at h); first | exact ⟨mp,k⟩ | (refine ⟨mp,?_⟩; simp (disch:=omega) [k,fself] <;> omega)⟩ <;> first|omega|assumption|(simp (disch:=omega) [b0,b2,hr,hmx,fc0,fc5,f3,fhp,fself,szME,agME,zoME,avCM,avOM,upL] <;> first|assumption|omega)
  ·have fc0:=c0 (hpp 0 (by simp [pre,Region.binds]))
   have fc1:=c1 (hpp 1 (by simp [pre,Region.binds]))
   have fc2:=c2 (hpp 2 (by simp [pre,Region.binds]))
   have fc3:=c3 (hpp 3 (by simp [pre,Region.binds]))
   have fc5:=c5 (hpp 5 (by simp [pre,Region.binds]))
   obtain ⟨il,f19,fhl,fl,fu⟩:=id fc3
   refine MOPS.k 1 ?_
   refine .e ?_ (by simp (disch:=first|exact zd|fail) [if_pos,b0,b2,hr,hmx,fc0,fc1,fc2,fc3,fc5,f19,fhl,szME,agME,zoME,avCM,avOM]; rfl)
   refine MOPS.nil ?_
   refine ⟨?_,?_,rfl,?_,?_,?_,?_,?_,fun h=>by obtain ⟨il,k⟩:=c3 (by rwa [upL_ne LL (by decide)] at h); first | exact ⟨il,k⟩ | (refine ⟨il,?_⟩; simp (disch:=omega) [k] <;> omega),fun h=>by obtain ⟨mp,k⟩:=c4 (by rwa [upL_ne LL (by decide)] at h); first | exact ⟨mp,k⟩ | (refine ⟨mp,?_⟩; simp (disch:=omega) [k] <;> omega),fun h=>by obtain ⟨ip,k⟩:=c5 (by rwa [upL_ne LL (by decide)] at h); first | exact ⟨ip,k⟩ | (refine ⟨ip,?_⟩; simp (disch:=omega) [k] <;> omega),fun _=>⟨il,by simp (disch:=omega) [fhl] <;> first | omega | assumption⟩,fun h=>by obtain ⟨mp,k⟩:=c8 (by rwa [upL_ne LL (by decide)] at h); first | exact ⟨mp,k⟩ | (refine ⟨mp,?_⟩; simp (disch:=omega) [k] <;> omega)⟩ <;> first|omega|assumption|(simp (disch:=omega) [b0,b2,hr,hmx,fc0,fc1,fc2,fc3,fc5,f19,fhl,szME,agME,zoME,avCM,avOM,upL] <;> first|assumption|omega)
  ·have fc0:=c0 (hpp 0 (by simp [pre,Region.binds]))
   have fc1:=c1 (hpp 1 (by simp [pre,Region.binds]))
   have fc2:=c2 (hpp 2 (by simp [pre,Region.binds]))
   have fc3:=c3 (hpp 3 (by simp [pre,Region.binds]))
   have fc4:=c4 (hpp 4 (by simp [pre,Region.binds]))
   have fc5:=c5 (hpp 5 (by simp [pre,Region.binds]))
   have fc7:=c7 (hpp 7 (by simp [pre,Region.binds]))
   obtain ⟨mp,f20,fm⟩:=id fc4
   refine MOPS.k 1 ?_
   refine .e ?_ (by simp (disch:=first|exact zd|fail) [if_pos,b0,b2,hr,hmx,fc0,fc1,fc2,fc3,fc4,fc5,fc7,f20,szME,agME,zoME,avCM,avOM]; rfl)
   refine MOPS.nil ?_
   refine ⟨?_,?_,rfl,?_,?_,?_,?_,?_,fun h=>by obtain ⟨il,k⟩:=c3 (by rwa [upL_ne LL (by decide)] at h); first | exact ⟨il,k⟩ | (refine ⟨il,?_⟩; simp (disch:=omega) [k] <;> omega),fun h=>by obtain ⟨mp,k⟩:=c4 (by rwa [upL_ne LL (by decide)] at h); first | exact ⟨mp,k⟩ | (refine ⟨mp,?_⟩; simp (disch:=omega) [k] <;> omega),fun h=>by obtain ⟨ip,k⟩:=c5 (by rwa [upL_ne LL (by decide)] at h); first | exact ⟨ip,k⟩ | (refine ⟨ip,?_⟩; simp (disch:=omega) [k] <;> omega),fun h=>by obtain ⟨il,k⟩:=c7 (by rwa [upL_ne LL (by decide)] at h); first | exact ⟨il,k⟩ | (refine ⟨il,?_⟩; simp (disch:=omega) [k] <;> omega),fun _=>⟨mp,by simp (disch:=omega) [fm] <;> first | omega | assumption⟩⟩ <;> first|omega|assumption|(simp (disch:=omega) [b0,b2,hr,hmx,fc0,fc1,fc2,fc3,fc4,fc5,fc7,f20,szME,agME,zoME,avCM,avOM,upL] <;> first|assumption|omega)
 ·rintro LL ⟨e,H,mm,nt⟩ MM hL ⟨b0,b2,hnt,hr,hmx,c0,c1,c2,c3,c4,c5,c7,c8⟩
  replace c0:=c0 (hL 0 (by simp))
  replace c1:=c1 (hL 1 (by simp))
  replace c2:=c2 (hL 2 (by simp))
  replace c3:=c3 (hL 3 (by simp))
  replace c4:=c4 (hL 4 (by simp))
  replace c5:=c5 (hL 5 (by simp))
  replace c7:=c7 (hL 7 (by simp))
  replace c8:=c8 (hL 8 (by simp))
  simp only [] at b0 b2 hnt hr hmx c0 c1 c2 c3 c4 c5 c7 c8
  subst hnt
  obtain ⟨il,h4,hl,yl0,yl⟩:=c7
  obtain ⟨mp,h5,hMM⟩:=c8
  obtain ⟨ip,h3,hp,yp0,yp⟩:=c5
  have hpl : ip ≠ il:=fun e=>by rw [e,hl] at hp; simp at hp
  obtain ⟨m1,hm1⟩ : ∃ m1,m1 = mm:=⟨_,rfl⟩
  have hil1 : il < m1:=by omega
  have hip1 : ip < m1:=by omega
  have hnx1 : nx < m1:=by omega
  refine hK2 _ _ ?_
  refine .sq fun K3 hK3=>?_
  refine .q ?_ (by simp (disch:=first|exact zd|fail) [b0,h4,hl,List.length_replicate]; rfl)
  refine .block ?_
  
  refine .loop (fun N s MM=>∃ i : Nat,N = L.length - i ∧ i ≤ L.length ∧ (m1 ≤ s.nx) ∧ (MM mp = some (memE [])) ∧ s.env 0 = .isl (L.map Sg.cells) ∧ s.env 2 = .ptr nx 0 0 ∧ s.env 3 = .ptr ip 0 0 ∧ s.env 4 = .osl il 0 L.length ∧ s.env 5 = .raw (.map (some mp)) ∧ s.env 22 = .int .i64 (L.length : Int) ∧ s.env 23 = .int .i64 (i : Int) ∧ s.heap nx = some (2,[[.nsl,.nsl]]) ∧ nx < s.nx ∧ s.heap ip = some (2,[[.nsl,.nsl]]) ∧ ip < s.nx ∧ s.heap il = some (1,wd .i64 (mOne L.length i)) ∧ il < s.nx ∧ s.nt = 121) (L.length) (by refine ⟨0,by omega,by omega,by first|omega|(simp;omega),by rw [memE_nil]; exact hMM,?_,?_,?_,?_,?_,?_,?_,?_,?_,?_,?_,?_,?_,rfl⟩ <;> first|(simp (disch:=omega) [b0,b2,h3,h4,h5,hr,hp,hl,mOne_zero];done)|omega|(simp;done)|(simp;omega)) ?_
  rintro N ⟨e,H,mm,nt⟩ MM ⟨i,rfl,hi,hmx,hMM,g0,g2,g3,g4,g5,g22,g23,Hr,xr,Hp,xp,Hl,xl,rfl⟩
  simp only [] at g0 g2 g3 g4 g5 g22 g23 Hr xr Hp xp Hl xl
  simp only [] at hmx
  refine .q ?_ (by simp (disch:=first|exact zd|fail) [g22,g23]; rfl)
  refine .sq fun K6 hK6=>?_
  refine .c (fun h24=>?_) (fun h24=>?_)
  ·try simp only[dc]at h24
   have hi' : i < L.length:=by omega
   have hml:=mOne_len (n:=L.length) (i:=i) (by omega)
   have hms:=mOne_set hi'
   refine .skip ?_
   refine hK6 _ _ ?_
   refine .sq fun K7 hK7=>?_
   refine .block ?_
   refine .q ?_ (by simp (disch:=first|exact zd|fail) [g23]; rfl)
   refine .up ?_
   refine .r ?_ (by simp (disch:=first|exact zd|fail) [if_pos,g4,g23,Hl,hml,wd_len,hi']; rfl)
   refine hK7 _ _ ?_
   refine .up ?_
   refine .r ?_ (by simp (disch:=first|exact zd|fail) [g23]; rfl)
   refine ⟨L.length - (i + 1),by omega,i + 1,rfl,by omega,by first|omega|(simp;omega),hMM,?_,?_,?_,?_,?_,?_,?_,?_,?_,?_,?_,?_,?_,rfl⟩ <;> first|(simp (disch:=omega) [g0,g2,g3,g4,g5,g22,g23,Hr,Hp,Hl,hms];done)|omega|(simp;done)|(simp;omega)
  ·try simp only[dc]at h24
   have hin : i = L.length:=by omega
   subst hin
   refine .exit ?_
   refine hK3 _ _ ?_
   refine .sq fun K9 hK9=>?_
   refine .sq fun K10 hK10=>?_
   refine .up ?_
   refine .region ?_
   refine .kf 1 (hits_fc L z1 z2) hb104 ?_ (by simp (disch:=first|exact zd|fail) [List.take_succ_cons,List.take_zero,g0,hitRl]; rfl) (ha:=by simp (disch:=first|exact zd|fail) [idf_Wd',g0,hitRl])
   refine .e ?_ (by simp (disch:=first|exact zd|fail) [g0,hitRl]; rfl)
   refine hK10 _ _ ?_
   refine .block ?_
   
   refine .loop (fun N s MM=>∃ v : Nat,∃ pv : AV,∃ ev : AV,∃ D : List (Ed × Nat),N = (hitP L).length - v ∧ v ≤ (hitP L).length ∧ (m1 ≤ s.nx) ∧ (PtV L s.heap m1 s.nx v pv) ∧ (EdV s.heap m1 s.nx ev D) ∧ (D.map (·.1) = gatF (evA L v)) ∧ (MM mp = some (memE (gatF (evA L v)))) ∧ s.env 0 = .isl (L.map Sg.cells) ∧ s.env 2 = .ptr nx 0 0 ∧ s.env 3 = .ptr ip 0 0 ∧ s.env 4 = .osl il 0 L.length ∧ s.env 5 = .raw (.map (some mp)) ∧ s.env 31 = .isl (hitR L) ∧ s.env 32 = .int .i64 ((hitP L).length : Int) ∧ s.env 33 = .int .i64 (v : Int) ∧ s.heap nx = some (2,[[.nsl,.nsl]]) ∧ nx < s.nx ∧ s.heap ip = some (2,[[pv,ev]]) ∧ ip < s.nx ∧ s.heap il = some (1,wd .i64 (lasL L v [])) ∧ il < s.nx ∧ s.nt = 121) ((hitP L).length) (by refine ⟨0,.nsl,.nsl,[],by omega,by omega,by first|omega|(simp;omega),.inl ⟨rfl,rfl⟩,.inl ⟨rfl,rfl⟩,rfl,hMM,?_,?_,?_,?_,?_,?_,?_,?_,?_,?_,?_,?_,?_,?_,rfl⟩ <;> first|(simp (disch:=omega) [g0,g2,g3,g4,g5,g22,g23,Hr,Hp,Hl,mOne_end];done)|omega|(simp;done)|(simp;omega)) ?_
   clear g0 g2 g3 g4 g5 g22 g23 Hr xr Hp xp Hl xl
   rintro N ⟨e,H,mm,nt⟩ MM ⟨v,pv,ev,D,rfl,hv,hmx,hpv,hev,hD,hMM,g0,g2,g3,g4,g5,g31,g32,g33,Hr,xr,Hp,xp,Hl,xl,rfl⟩
   simp only [] at g0 g2 g3 g4 g5 g31 g32 g33 Hr xr Hp xp Hl xl
   simp only [] at hmx hpv hev
   refine .q ?_ (by simp (disch:=first|exact zd|fail) [g32,g33]; rfl)
   refine .sq fun K12 hK12=>?_
   refine .c (fun h34=>?_) (fun h34=>?_)
   ·try simp only[dc]at h34
    have hv' : v < (hitP L).length:=by omega
    obtain ⟨g,hg⟩ : ∃ g,(hitP L)[v]? = some g:=⟨_,List.getElem?_eq_getElem hv'⟩
    have hgq : gpq L v = g:=by have h:=gpq_get hv'; rw [hg] at h; exact (Option.some.inj h).symm
    obtain ⟨Z,hZ⟩ : ∃ Z,Z = hcZ L v:=⟨_,rfl⟩
    have hZg : onL L g.1 = Z:=by rw [hZ,← hgq]; rfl
    have hZl : Z.length ≤ L.length:=by rw [hZ]; exact onN_len L _ _
    have hat : (hitR L)[v]? = some (Pt.cells g.1 ++ [Wd .i64 Z]):=by unfold hitR; rw [List.getElem?_map,hg,← hZg]; rfl
    have hrl : (hitR L).length = (hitP L).length:=List.length_map _
    have hae : ∀ h : v < (hitR L).length,(hitR L)[v] = Pt.cells g.1 ++ [Wd .i64 Z]:=fun h=>by rw [List.getElem?_eq_getElem h] at hat; simpa using hat
    simp only [Pt.cells,List.cons_append,List.nil_append] at hat hae
    have hgc : cellsG g = Pt.cells g.1:=rfl
    simp only [Pt.cells] at hgc
    have hDl : D.length ≤ 67200:=by
      have h1:=gatF_len (evA L v)
      have h2:=evA_len L v
      have h3 : v * L.length ≤ 1680 * 40:=Nat.mul_le_mul (by omega) z1
      rw [← hD,List.length_map] at h1; omega
    have htkg : (hitP L).take (v + 1) = (hitP L).take v ++ [g]:=by rw [List.take_add_one,hg]; rfl
    refine .skip ?_
    refine hK12 _ _ ?_
    refine .sq fun K13 hK13=>?_
    refine .block ?_
    refine .q ?_ (by simp (disch:=first|exact zd|fail) [if_pos,g31,g33,hat,hae,hrl,hv']; rfl)
    refine MWP.frz1 8 mm 13 [[.int .u64 g.1.x.a,.int .u64 g.1.x.b,.int .u64 g.1.x.c,.int .u64 g.1.x.d,.int .u64 g.1.y.a,.int .u64 g.1.y.b,.int .u64 g.1.y.c,.int .u64 g.1.y.d,.int .u64 g.1.w.a,.int .u64 g.1.w.b,.int .u64 g.1.w.c,.int .u64 g.1.w.d,Wd .i64 Z]] (.ip [.int .u64 g.1.x.a,.int .u64 g.1.x.b,.int .u64 g.1.x.c,.int .u64 g.1.x.d,.int .u64 g.1.y.a,.int .u64 g.1.y.b,.int .u64 g.1.y.c,.int .u64 g.1.y.d,.int .u64 g.1.w.a,.int .u64 g.1.w.b,.int .u64 g.1.w.c,.int .u64 g.1.w.d,Wd .i64 Z]) (by simp (disch:=omega)) (by simp (disch:=omega) [fz]) ?_
    refine .sq fun K15 hK15=>?_
    have J15 : ∀ (s : St) (MM : MS Ek),(∃ iq : Nat,(m1 ≤ s.nx) ∧ (m1 ≤ iq) ∧ (EdV s.heap m1 s.nx ev D) ∧ (MM mp = some (memE (gatF (evA L v)))) ∧ s.env 0 = .isl (L.map Sg.cells) ∧ s.env 2 = .ptr nx 0 0 ∧ s.env 3 = .ptr ip 0 0 ∧ s.env 4 = .osl il 0 L.length ∧ s.env 5 = .raw (.map (some mp)) ∧ s.env 7 = .int .i64 (v : Int) ∧ s.env 31 = .isl (hitR L) ∧ s.env 32 = .int .i64 ((hitP L).length : Int) ∧ s.env 33 = .int .i64 (v : Int) ∧ s.env 8 = .ip [.int .u64 g.1.x.a,.int .u64 g.1.x.b,.int .u64 g.1.x.c,.int .u64 g.1.x.d,.int .u64 g.1.y.a,.int .u64 g.1.y.b,.int .u64 g.1.y.c,.int .u64 g.1.y.d,.int .u64 g.1.w.a,.int .u64 g.1.w.b,.int .u64 g.1.w.c,.int .u64 g.1.w.d,Wd .i64 Z] ∧ s.heap nx = some (2,[[.nsl,.nsl]]) ∧ nx < s.nx ∧ s.heap ip = some (2,[[.osl iq 0 (v + 1),ev]]) ∧ ip < s.nx ∧ s.heap il = some (1,wd .i64 (lasL L v [])) ∧ il < s.nx ∧ s.heap iq = some (12,((hitP L).take (v + 1)).map cellsG) ∧ iq < s.nx ∧ s.nt = 121) → K15 s MM:=by
     clear g0 g2 g3 g4 g5 g31 g32 g33 Hr xr Hp xp Hl xl hmx hev hpv hMM
     rintro ⟨e0,H,mm,nt⟩ MM ⟨iq,hmx,hiq,hev,hMM,g0,g2,g3,g4,g5,g7,g31,g32,g33,g8,Hr,xr,Hp,xp,Hl,xl,Hq,xq,rfl⟩
     simp only [] at g0 g2 g3 g4 g5 g7 g31 g32 g33 g8 Hr xr Hp xp Hl xl Hq xq
     simp only [] at hmx hev
     refine hK15 _ _ ?_
     refine .q ?_ (by simp (disch:=first|exact zd|fail) [g8]; rfl)
     refine .block ?_
     
     refine .loop (fun N s MM=>∃ k : Nat,∃ iq : Nat,∃ ev : AV,∃ D : List (Ed × Nat),N = Z.length - k ∧ k ≤ Z.length ∧ (m1 ≤ s.nx) ∧ (m1 ≤ iq) ∧ (EdV s.heap m1 s.nx ev D) ∧ (D.map (·.1) = gatF (evV L v k)) ∧ (MM mp = some (memE (gatF (evV L v k)))) ∧ s.env 0 = .isl (L.map Sg.cells) ∧ s.env 2 = .ptr nx 0 0 ∧ s.env 3 = .ptr ip 0 0 ∧ s.env 4 = .osl il 0 L.length ∧ s.env 5 = .raw (.map (some mp)) ∧ s.env 7 = .int .i64 (v : Int) ∧ s.env 31 = .isl (hitR L) ∧ s.env 32 = .int .i64 ((hitP L).length : Int) ∧ s.env 33 = .int .i64 (v : Int) ∧ s.env 46 = Wd .i64 Z ∧ s.env 47 = .int .i64 (Z.length : Int) ∧ s.env 48 = .int .i64 (k : Int) ∧ s.heap nx = some (2,[[.nsl,.nsl]]) ∧ nx < s.nx ∧ s.heap ip = some (2,[[.osl iq 0 (v + 1),ev]]) ∧ ip < s.nx ∧ s.heap il = some (1,wd .i64 (lasL L v (Z.take k))) ∧ il < s.nx ∧ s.heap iq = some (12,((hitP L).take (v + 1)).map cellsG) ∧ iq < s.nx ∧ s.nt = 121) (Z.length) (by refine ⟨0,iq,ev,D,by omega,by omega,hmx,hiq,hev,by rw [evV_zero]; exact hD,by rw [evV_zero]; exact hMM,?_,?_,?_,?_,?_,?_,?_,?_,?_,?_,?_,?_,?_,?_,?_,?_,?_,?_,?_,?_,rfl⟩ <;> first|(simp (disch:=omega) [g0,g2,g3,g4,g5,g7,g31,g32,g33,g8,Hr,Hp,Hl,Hq];done)|omega|(simp;done)|(simp;omega)) ?_
     clear g0 g2 g3 g4 g5 g7 g31 g32 g33 g8 Hr xr Hp xp Hl xl Hq xq hmx hiq hev hD hMM
     rintro N ⟨e,H,mm,nt⟩ MM ⟨k,iq,ev,D,rfl,hk,hmx,hiq,hev,hD,hMM,g0,g2,g3,g4,g5,g7,g31,g32,g33,g46,g47,g48,Hr,xr,Hp,xp,Hl,xl,Hq,xq,rfl⟩
     simp only [] at g0 g2 g3 g4 g5 g7 g31 g32 g33 g46 g47 g48 Hr xr Hp xp Hl xl Hq xq
     simp only [] at hmx hev
     refine .q ?_ (by simp (disch:=first|exact zd|fail) [g47,g48]; rfl)
     refine .sq fun K18 hK18=>?_
     refine .c (fun h49=>?_) (fun h49=>?_)
     ·try simp only[dc]at h49
      have hk' : k < Z.length:=by omega
      obtain ⟨n,hn,hnL,hnn,htk⟩:=hcZ_at (L:=L) (v:=v) (k:=k) (by rw [← hZ]; exact hk')
      have htkZ:=htk
      rw [← hZ] at hn hnn htk
      have hll:=lasL_len L v (Z.take k)
      have hlg : gt (lasL L v (Z.take k)) n = lastN L n v:=by rw [lasL_gt hnL,if_neg hnn]
      obtain ⟨fr,hfr⟩ : ∃ fr,fr = lastN L n v:=⟨_,rfl⟩
      have hfb:=lastN_b L n v
      rw [← hfr] at hlg hfb
      have hlat : (wd .i64 (lasL L v (Z.take k)))[n]? = some [.int .i64 fr]:=by rw [wd_at (by rw [hll]; exact hnL),hlg]
      have hlae : ∀ h : n < (wd .i64 (lasL L v (Z.take k))).length,(wd .i64 (lasL L v (Z.take k)))[n] = [.int .i64 fr]:=fun h=>by rw [List.getElem?_eq_getElem h] at hlat; simpa using hlat
      have hDl : D.length ≤ 67200:=by
        have h1:=gatF_len (evV L v k)
        have h2:=evV_len L v k
        have h3 : (v + 1) * L.length ≤ 1680 * 40:=Nat.mul_le_mul (by omega) z1
        rw [← hD,List.length_map] at h1; omega
      refine .skip ?_
      refine hK18 _ _ ?_
      refine .sq fun K19 hK19=>?_
      refine .block ?_
      refine .q ?_ (by simp (disch:=first|exact zd|fail) [if_pos,g46,g48,hn,hk']; rfl)
      refine .sq fun K21 hK21=>?_
      have J21 : ∀ (s : St) (MM : MS Ek),(∃ ev : AV,∃ D : List (Ed × Nat),(m1 ≤ s.nx) ∧ (m1 ≤ iq) ∧ (EdV s.heap m1 s.nx ev D) ∧ (D.map (·.1) = gatF (evV L v (k + 1))) ∧ (MM mp = some (memE (gatF (evV L v (k + 1))))) ∧ s.env 0 = .isl (L.map Sg.cells) ∧ s.env 2 = .ptr nx 0 0 ∧ s.env 3 = .ptr ip 0 0 ∧ s.env 4 = .osl il 0 L.length ∧ s.env 5 = .raw (.map (some mp)) ∧ s.env 7 = .int .i64 (v : Int) ∧ s.env 31 = .isl (hitR L) ∧ s.env 32 = .int .i64 ((hitP L).length : Int) ∧ s.env 33 = .int .i64 (v : Int) ∧ s.env 10 = .int .i64 (n : Int) ∧ s.env 46 = Wd .i64 Z ∧ s.env 47 = .int .i64 (Z.length : Int) ∧ s.env 48 = .int .i64 (k : Int) ∧ s.heap nx = some (2,[[.nsl,.nsl]]) ∧ nx < s.nx ∧ s.heap ip = some (2,[[.osl iq 0 (v + 1),ev]]) ∧ ip < s.nx ∧ s.heap il = some (1,wd .i64 (lasL L v (Z.take k))) ∧ il < s.nx ∧ s.heap iq = some (12,((hitP L).take (v + 1)).map cellsG) ∧ iq < s.nx ∧ s.nt = 121) → K21 s MM:=by
       clear g0 g2 g3 g4 g5 g7 g31 g32 g33 g46 g47 g48 Hr xr Hp xp Hl xl Hq xq hmx hev hD hMM
       rintro ⟨e0,H,mm,nt⟩ MM ⟨ev,D,hmx,hiq,hev,hD,hMM,g0,g2,g3,g4,g5,g7,g31,g32,g33,g10,g46,g47,g48,Hr,xr,Hp,xp,Hl,xl,Hq,xq,rfl⟩
       simp only [] at g0 g2 g3 g4 g5 g7 g31 g32 g33 g10 g46 g47 g48 Hr xr Hp xp Hl xl Hq xq
       simp only [] at hmx hev
       refine hK21 _ _ ?_
       have hset2 : (lasL L v (Z.take k)).set n (v : Int) = lasL L v (Z.take (k + 1)):=by rw [lasL_set hnL,htk]
       refine .up ?_
       refine .r ?_ (by simp (disch:=first|exact zd|fail) [if_pos,g4,g7,g10,Hl,wd_len,hll,hlat,hlae,hnL]; rfl)
       refine hK19 _ _ ?_
       refine .up ?_
       refine .r ?_ (by simp (disch:=first|exact zd|fail) [g48]; rfl)
       refine ⟨Z.length - (k + 1),by omega,k + 1,iq,ev,D,rfl,by omega,by first|omega|(simp;omega),hiq,hev.to (Nat.le_refl _) (by first|omega|(simp;done)|(simp;omega)) (fun q h1 h2 h3=>by simp (disch:=omega)),hD,hMM,?_,?_,?_,?_,?_,?_,?_,?_,?_,?_,?_,?_,?_,?_,?_,?_,?_,?_,?_,?_,rfl⟩ <;> first|(simp (disch:=omega) [g0,g2,g3,g4,g5,g7,g31,g32,g33,g10,g46,g47,g48,Hr,Hp,Hl,Hq,hlat,hset2];done)|omega|(simp;done)|(simp;omega)
      refine .q ?_ (by simp (disch:=first|exact zd|fail) [if_pos,g4,Hl,wd_len,hll,hlat,hlae,hnL]; rfl)
      refine .q ?_
      refine .c (t:=decide (0 ≤ fr)) (fun h57=>?_) (fun h57=>?_)
      ·try simp only[dc]at h57
       have h0f : 0 ≤ fr:=by omega
       have hstp : gatF (evV L v (k + 1)) = addE (gatF (evV L v k)) (fr,(v : Int)) n:=by rw [evV_step htkZ,rowA_yes (by omega),gatF_snoc,← hfr]
       have hok : okE (fr,(v : Int)):=by unfold okE; simp only []; omega
       obtain ⟨E,hE⟩ : ∃ E,E = gatF (evV L v k):=⟨_,rfl⟩
       rw [← hE] at hD hMM hstp
       obtain ⟨kv,hkv⟩ : ∃ kv,kv = (memE E ((fr,(v : Int)) : Ek)).getD (.int .i64 0):=⟨_,rfl⟩
       have hgd : (memE E ((fr,(v : Int)) : Ek)).getD (.int .i64 0) = kv:=hkv.symm
       have hsm : (memE E ((fr,(v : Int)) : Ek)).isSome = decide (((fr,(v : Int)) : Ek) ∈ E.map (·.1)):=by rw [memE_get]; by_cases h : ((fr,(v : Int)) : Ek) ∈ E.map (·.1) <;> simp [h]
       refine .q ?_ (by simp (disch:=first|exact zd|fail) [g0,g2,g3,g4,g5,g7,g31,g32,g33,g46,g47,g48,hn]; rfl)
       refine .sq fun K25 hK25=>?_
       refine .region ?_
       refine .k 2 ?_
       refine .e ?_ (by simp (disch:=first|exact zd|fail) [g0,g2,g3,g4,g5,g7,g31,g32,g33,g46,g47,g48,hn,szME,agME]; rfl)
       refine .lookup (a:=(fr,(v : Int))) keyE unME zvI rfl (hm:=by simp (disch:=omega) [g5]) (hk:=by simp (disch:=omega) [kvE]) rfl hok (by simp) rfl (by simp) hMM ?_
       simp only [if_true,hgd,hsm]
       refine .k 5 ?_
       refine .e ?_ (by simp (disch:=first|exact zd|fail) [g0,g2,g3,g4,g5,g7,g31,g32,g33,g46,g47,g48,hn,szME,agME]; rfl)
       refine .nil ?_
       
       refine hK25 _ _ ?_
       refine .sq fun K26 hK26=>?_
       have J26 : ∀ (s : St) (MM : MS Ek),(∃ ROWS : List (List AV),∃ kk : Nat,∃ ie : Nat,∃ sv : AV,∃ seg : List Int,∃ px : Nat,(m1 ≤ s.nx) ∧ (m1 ≤ ie) ∧ (m1 ≤ px ∧ px < s.nx) ∧ (ROWS[kk]? = some [.int .i64 fr,.int .i64 (v : Int),sv]) ∧ (ROWS.length ≤ 67201) ∧ (seg.length ≤ 67200) ∧ ((sv = .nsl ∧ seg = [] ∧ px = ie) ∨ (sv = .osl px 0 seg.length ∧ s.heap px = some (1,wd .i64 seg) ∧ px ≠ ie)) ∧ (∀ (i1 : Nat) (H' : Heap) (hi' : Nat),s.nx ≤ i1 → i1 < hi' → H' i1 = some (1,wd .i64 (seg ++ [(n : Int)])) → H' ie = some (3,ROWS.set kk [.int .i64 fr,.int .i64 (v : Int),.osl i1 0 (seg.length + 1)]) → (∀ q,m1 ≤ q → q < s.nx → q ≠ ie → q ≠ px → H' q = s.heap q) → ∃ D' : List (Ed × Nat),D' ≠ [] ∧ EdN H' m1 hi' ie D' ∧ D'.length = ROWS.length ∧ D'.map (·.1) = gatF (evV L v (k + 1))) ∧ (MM mp = some (memE (gatF (evV L v (k + 1))))) ∧ s.env 0 = .isl (L.map Sg.cells) ∧ s.env 2 = .ptr nx 0 0 ∧ s.env 3 = .ptr ip 0 0 ∧ s.env 4 = .osl il 0 L.length ∧ s.env 5 = .raw (.map (some mp)) ∧ s.env 7 = .int .i64 (v : Int) ∧ s.env 31 = .isl (hitR L) ∧ s.env 32 = .int .i64 ((hitP L).length : Int) ∧ s.env 33 = .int .i64 (v : Int) ∧ s.env 10 = .int .i64 (n : Int) ∧ s.env 46 = Wd .i64 Z ∧ s.env 47 = .int .i64 (Z.length : Int) ∧ s.env 48 = .int .i64 (k : Int) ∧ s.env 13 = .int .i64 (kk : Int) ∧ s.heap nx = some (2,[[.nsl,.nsl]]) ∧ nx < s.nx ∧ s.heap ip = some (2,[[.osl iq 0 (v + 1),.osl ie 0 ROWS.length]]) ∧ ip < s.nx ∧ s.heap il = some (1,wd .i64 (lasL L v (Z.take k))) ∧ il < s.nx ∧ s.heap iq = some (12,((hitP L).take (v + 1)).map cellsG) ∧ iq < s.nx ∧ s.heap ie = some (3,ROWS) ∧ ie < s.nx ∧ s.nt = 121) → K26 s MM:=by
        clear g0 g2 g3 g4 g5 g7 g31 g32 g33 g46 g47 g48 Hr xr Hp xp Hl xl Hq xq hmx hev hMM hgd hsm
        rintro ⟨e0,H,mm,nt⟩ MM ⟨ROWS,kk,ie,sv,seg,px,hmx,hie,hpx,hrow,hRl,hsl,hsv,hfin,hMM,g0,g2,g3,g4,g5,g7,g31,g32,g33,g10,g46,g47,g48,g13,Hr,xr,Hp,xp,Hl,xl,Hq,xq,He,xe,rfl⟩
        simp only [] at g0 g2 g3 g4 g5 g7 g31 g32 g33 g10 g46 g47 g48 g13 Hr xr Hp xp Hl xl Hq xq He xe
        simp only [] at hmx hpx hsv hfin
        refine hK26 _ _ ?_
        refine .up ?_
        have hpq : iq ≠ px:=by
          rcases hsv with ⟨_,_,h⟩ | ⟨_,h,_⟩
          · intro e; rw [e,h,He] at Hq; simp at Hq
          · intro e; rw [e,h] at Hq; simp at Hq
        have hieq : ie ≠ iq:=fun e=>by rw [← e,He] at Hq; simp at Hq
        have hkl : kk < ROWS.length:=(List.getElem?_eq_some_iff.1 hrow).1
        have hrowE : ∀ h : kk < ROWS.length,ROWS[kk] = [.int .i64 fr,.int .i64 (v : Int),sv]:=fun h=>by rw [List.getElem?_eq_getElem h] at hrow; simpa using hrow
        obtain ⟨m0,hm0⟩ : ∃ m0,m0 = mm:=⟨_,rfl⟩
        obtain ⟨H0,hH0⟩ : ∃ H0,H0 = H:=⟨_,rfl⟩
        refine AWP.inv Tryz.checked.mixed (by kernel_rfl) (fun LL s=>(s.env 0 = .isl (L.map Sg.cells)) ∧ (s.env 2 = .ptr nx 0 0) ∧ (s.env 3 = .ptr ip 0 0) ∧ (s.env 4 = .osl il 0 L.length) ∧ (s.env 5 = .raw (.map (some mp))) ∧ (s.env 7 = .int .i64 (v : Int)) ∧ (s.env 31 = .isl (hitR L)) ∧ (s.env 32 = .int .i64 ((hitP L).length : Int)) ∧ (s.env 33 = .int .i64 (v : Int)) ∧ (s.env 10 = .int .i64 (n : Int)) ∧ (s.env 46 = Wd .i64 Z) ∧ (s.env 47 = .int .i64 (Z.length : Int)) ∧ (s.env 48 = .int .i64 (k : Int)) ∧ (s.env 13 = .int .i64 (kk : Int)) ∧ (s.nt = 121) ∧ (s.heap nx = some (2,[[.nsl,.nsl]])) ∧ (s.heap il = some (1,wd .i64 (lasL L v (Z.take k)))) ∧ (s.heap ip = some (2,[[.osl iq 0 (v + 1),.osl ie 0 ROWS.length]])) ∧ (s.heap iq = some (12,((hitP L).take (v + 1)).map cellsG)) ∧ (m0 ≤ s.nx) ∧ (∀ q,m1 ≤ q → q < m0 → q ≠ ie → q ≠ px → s.heap q = H0 q) ∧ (LL 0 = true → s.env 83 = .ptr ip 0 1) ∧ (LL 1 = true → s.env 84 = .osl ie 0 ROWS.length) ∧ (LL 2 = true → s.env 85 = .int .i64 (kk : Int)) ∧ (LL 3 = true → s.env 86 = .ptr ip 0 1) ∧ (LL 4 = true → s.env 87 = .osl ie 0 ROWS.length) ∧ (LL 5 = true → s.env 88 = .int .i64 (kk : Int)) ∧ (LL 6 = true → s.env 89 = .ptr ie kk 0) ∧ (LL 7 = true → s.env 90 = .ptr ie kk 2) ∧ (LL 8 = true → s.env 91 = sv) ∧ (LL 9 = true → s.env 92 = .int .i64 (n : Int)) ∧ (LL 10 = true → ∃ i2 : Nat,s.env 93 = .osl i2 0 1 ∧ s.heap i2 = some (1,wd .i64 [(n : Int)]) ∧ m0 ≤ i2 ∧ i2 < s.nx) ∧ (LL 11 = true → ∃ i1 : Nat,s.env 94 = .osl i1 0 (seg.length + 1) ∧ s.heap i1 = some (1,wd .i64 (seg ++ [(n : Int)])) ∧ m0 ≤ i1 ∧ i1 < s.nx) ∧ (LL 12 = true → s.env 95 = .ptr ie kk 0) ∧ (LL 13 = true → s.env 96 = .ptr ie kk 2) ∧ (LL 14 = true → ∃ i1 : Nat,s.heap ie = some (3,ROWS.set kk [.int .i64 fr,.int .i64 (v : Int),.osl i1 0 (seg.length + 1)]) ∧ s.heap i1 = some (1,wd .i64 (seg ++ [(n : Int)])) ∧ m0 ≤ i1 ∧ i1 < s.nx) ∧ (LL 11 = false → (sv = .nsl ∧ seg = [] ∧ px = ie) ∨ (sv = .osl px 0 seg.length ∧ s.heap px = some (1,wd .i64 seg) ∧ px ≠ ie)) ∧ (LL 14 = false → s.heap ie = some (3,ROWS))) (⟨by first|(simp (disch:=omega) [g0,g2,g3,g4,g5,g7,g31,g32,g33,g10,g46,g47,g48,g13,Hr,Hp,Hl,Hq,He];done)|omega|(simp;done)|(simp;omega)|(simp (disch:=omega) [g0,g2,g3,g4,g5,g7,g31,g32,g33,g10,g46,g47,g48,g13,Hr,Hp,Hl,Hq,He] <;> omega),by first|(simp (disch:=omega) [g0,g2,g3,g4,g5,g7,g31,g32,g33,g10,g46,g47,g48,g13,Hr,Hp,Hl,Hq,He];done)|omega|(simp;done)|(simp;omega)|(simp (disch:=omega) [g0,g2,g3,g4,g5,g7,g31,g32,g33,g10,g46,g47,g48,g13,Hr,Hp,Hl,Hq,He] <;> omega),by first|(simp (disch:=omega) [g0,g2,g3,g4,g5,g7,g31,g32,g33,g10,g46,g47,g48,g13,Hr,Hp,Hl,Hq,He];done)|omega|(simp;done)|(simp;omega)|(simp (disch:=omega) [g0,g2,g3,g4,g5,g7,g31,g32,g33,g10,g46,g47,g48,g13,Hr,Hp,Hl,Hq,He] <;> omega),by first|(simp (disch:=omega) [g0,g2,g3,g4,g5,g7,g31,g32,g33,g10,g46,g47,g48,g13,Hr,Hp,Hl,Hq,He];done)|omega|(simp;done)|(simp;omega)|(simp (disch:=omega) [g0,g2,g3,g4,g5,g7,g31,g32,g33,g10,g46,g47,g48,g13,Hr,Hp,Hl,Hq,He] <;> omega),by first|(simp (disch:=omega) [g0,g2,g3,g4,g5,g7,g31,g32,g33,g10,g46,g47,g48,g13,Hr,Hp,Hl,Hq,He];done)|omega|(simp;done)|(simp;omega)|(simp (disch:=omega) [g0,g2,g3,g4,g5,g7,g31,g32,g33,g10,g46,g47,g48,g13,Hr,Hp,Hl,Hq,He] <;> omega),by first|(simp (disch:=omega) [g0,g2,g3,g4,g5,g7,g31,g32,g33,g10,g46,g47,g48,g13,Hr,Hp,Hl,Hq,He];done)|omega|(simp;done)|(simp;omega)|(simp (disch:=omega) [g0,g2,g3,g4,g5,g7,g31,g32,g33,g10,g46,g47,g48,g13,Hr,Hp,Hl,Hq,He] <;> omega),by first|(simp (disch:=omega) [g0,g2,g3,g4,g5,g7,g31,g32,g33,g10,g46,g47,g48,g13,Hr,Hp,Hl,Hq,He];done)|omega|(simp;done)|(simp;omega)|(simp (disch:=omega) [g0,g2,g3,g4,g5,g7,g31,g32,g33,g10,g46,g47,g48,g13,Hr,Hp,Hl,Hq,He] <;> omega),by first|(simp (disch:=omega) [g0,g2,g3,g4,g5,g7,g31,g32,g33,g10,g46,g47,g48,g13,Hr,Hp,Hl,Hq,He];done)|omega|(simp;done)|(simp;omega)|(simp (disch:=omega) [g0,g2,g3,g4,g5,g7,g31,g32,g33,g10,g46,g47,g48,g13,Hr,Hp,Hl,Hq,He] <;> omega),by first|(simp (disch:=omega) [g0,g2,g3,g4,g5,g7,g31,g32,g33,g10,g46,g47,g48,g13,Hr,Hp,Hl,Hq,He];done)|omega|(simp;done)|(simp;omega)|(simp (disch:=omega) [g0,g2,g3,g4,g5,g7,g31,g32,g33,g10,g46,g47,g48,g13,Hr,Hp,Hl,Hq,He] <;> omega),by first|(simp (disch:=omega) [g0,g2,g3,g4,g5,g7,g31,g32,g33,g10,g46,g47,g48,g13,Hr,Hp,Hl,Hq,He];done)|omega|(simp;done)|(simp;omega)|(simp (disch:=omega) [g0,g2,g3,g4,g5,g7,g31,g32,g33,g10,g46,g47,g48,g13,Hr,Hp,Hl,Hq,He] <;> omega),by first|(simp (disch:=omega) [g0,g2,g3,g4,g5,g7,g31,g32,g33,g10,g46,g47,g48,g13,Hr,Hp,Hl,Hq,He];done)|omega|(simp;done)|(simp;omega)|(simp (disch:=omega) [g0,g2,g3,g4,g5,g7,g31,g32,g33,g10,g46,g47,g48,g13,Hr,Hp,Hl,Hq,He] <;> omega),by first|(simp (disch:=omega) [g0,g2,g3,g4,g5,g7,g31,g32,g33,g10,g46,g47,g48,g13,Hr,Hp,Hl,Hq,He];done)|omega|(simp;done)|(simp;omega)|(simp (disch:=omega) [g0,g2,g3,g4,g5,g7,g31,g32,g33,g10,g46,g47,g48,g13,Hr,Hp,Hl,Hq,He] <;> omega),by first|(simp (disch:=omega) [g0,g2,g3,g4,g5,g7,g31,g32,g33,g10,g46,g47,g48,g13,Hr,Hp,Hl,Hq,He];done)|omega|(simp;done)|(simp;omega)|(simp (disch:=omega) [g0,g2,g3,g4,g5,g7,g31,g32,g33,g10,g46,g47,g48,g13,Hr,Hp,Hl,Hq,He] <;> omega),by first|(simp (disch:=omega) [g0,g2,g3,g4,g5,g7,g31,g32,g33,g10,g46,g47,g48,g13,Hr,Hp,Hl,Hq,He];done)|omega|(simp;done)|(simp;omega)|(simp (disch:=omega) [g0,g2,g3,g4,g5,g7,g31,g32,g33,g10,g46,g47,g48,g13,Hr,Hp,Hl,Hq,He] <;> omega),rfl,by first|(simp (disch:=omega) [g0,g2,g3,g4,g5,g7,g31,g32,g33,g10,g46,g47,g48,g13,Hr,Hp,Hl,Hq,He];done)|omega|(simp;done)|(simp;omega)|(simp (disch:=omega) [g0,g2,g3,g4,g5,g7,g31,g32,g33,g10,g46,g47,g48,g13,Hr,Hp,Hl,Hq,He] <;> omega),by first|(simp (disch:=omega) [g0,g2,g3,g4,g5,g7,g31,g32,g33,g10,g46,g47,g48,g13,Hr,Hp,Hl,Hq,He];done)|omega|(simp;done)|(simp;omega)|(simp (disch:=omega) [g0,g2,g3,g4,g5,g7,g31,g32,g33,g10,g46,g47,g48,g13,Hr,Hp,Hl,Hq,He] <;> omega),by first|(simp (disch:=omega) [g0,g2,g3,g4,g5,g7,g31,g32,g33,g10,g46,g47,g48,g13,Hr,Hp,Hl,Hq,He];done)|omega|(simp;done)|(simp;omega)|(simp (disch:=omega) [g0,g2,g3,g4,g5,g7,g31,g32,g33,g10,g46,g47,g48,g13,Hr,Hp,Hl,Hq,He] <;> omega),by first|(simp (disch:=omega) [g0,g2,g3,g4,g5,g7,g31,g32,g33,g10,g46,g47,g48,g13,Hr,Hp,Hl,Hq,He];done)|omega|(simp;done)|(simp;omega)|(simp (disch:=omega) [g0,g2,g3,g4,g5,g7,g31,g32,g33,g10,g46,g47,g48,g13,Hr,Hp,Hl,Hq,He] <;> omega),by first|omega|(simp;omega),fun q _ _ _ _=>by rw [hH0],fun h=>by simp at h,fun h=>by simp at h,fun h=>by simp at h,fun h=>by simp at h,fun h=>by simp at h,fun h=>by simp at h,fun h=>by simp at h,fun h=>by simp at h,fun h=>by simp at h,fun h=>by simp at h,fun h=>by simp at h,fun h=>by simp at h,fun h=>by simp at h,fun h=>by simp at h,fun h=>by simp at h,fun _=>hsv,fun _=>by first|(simp (disch:=omega) [g0,g2,g3,g4,g5,g7,g31,g32,g33,g10,g46,g47,g48,g13,Hr,Hp,Hl,Hq,He];done)|omega|(simp;done)|(simp;omega)|(simp (disch:=omega) [g0,g2,g3,g4,g5,g7,g31,g32,g33,g10,g46,g47,g48,g13,Hr,Hp,Hl,Hq,He] <;> omega)⟩) ?_ ?_
        ·rintro LL ⟨e,H,mm,nt⟩ x o hC ⟨b0,b2,b3,b4,b5,b7,b31,b32,b33,b10,b46,b47,b48,b13,hnt,hr,hl,hp,hq,hmm,hfm,c0,c1,c2,c3,c4,c5,c6,c7,c8,c9,c10,c11,c12,c13,c14,nsv,ne⟩ hxx hoo hpp
         simp only [] at b0 b2 b3 b4 b5 b7 b31 b32 b33 b10 b46 b47 b48 b13 hnt hr hl hp hq hmm hfm c0 c1 c2 c3 c4 c5 c6 c7 c8 c9 c10 c11 c12 c13 c14 nsv ne
         subst hnt
         rcases x with _ | _ | _ | _ | _ | _ | _ | _ | _ | _ | _ | _ | _ | _ | _ | x
         all_goals first|(simp only [List.getElem?_toArray,List.getElem?_cons_zero,List.getElem?_cons_succ,Option.some.injEq] at hoo;subst hoo;try simp only [Nat.zero_add,Nat.reduceAdd] at hxx ⊢)|(simp at hoo;done)
         ·have fne:=ne (hC.not hxx (k:=14) rfl (by simp [pre,Region.binds]))
          refine .e ?_ (by simp (disch:=first|exact zd|fail) [if_pos,b0,b2,b3,b4,b5,b7,b31,b32,b33,b10,b46,b47,b48,b13,hr,hl,hp,hq,hmm,hfm,fne,hrow,hrowE,hkl]; rfl)
          refine ⟨?_,?_,?_,?_,?_,?_,?_,?_,?_,?_,?_,?_,?_,?_,rfl,?_,?_,?_,?_,?_,hfm,fun _=>?_,?_,?_,?_,?_,?_,?_,?_,?_,?_,fun h=>by obtain ⟨i2,k⟩:=c10 (by rwa [upL_ne LL (by decide)] at h); first | exact ⟨i2,k⟩ | (refine ⟨i2,?_⟩; simp (disch:=omega) [k] <;> omega),fun h=>by obtain ⟨i1,k⟩:=c11 (by rwa [upL_ne LL (by decide)] at h); first | exact ⟨i1,k⟩ | (refine ⟨i1,?_⟩; simp (disch:=omega) [k] <;> omega),?_,?_,fun h=>by obtain ⟨i1,k⟩:=c14 (by rwa [upL_ne LL (by decide)] at h); first | exact ⟨i1,k⟩ | (refine ⟨i1,?_⟩; simp (disch:=omega) [k] <;> omega),fun h=>nsv (by rw [upL_ne LL (by decide)] at h; exact h),?_⟩ <;> first|omega|assumption|(simp (disch:=omega) [b0,b2,b3,b4,b5,b7,b31,b32,b33,b10,b46,b47,b48,b13,hr,hl,hp,hq,hmm,hfm,fne,hrow,hrowE,hkl,upL] <;> first|assumption|omega)
         ·have fc0:=c0 (hpp 0 (by simp [pre,Region.binds]))
          have fne:=ne (hC.not hxx (k:=14) rfl (by simp [pre,Region.binds]))
          refine .e ?_ (by simp (disch:=first|exact zd|fail) [if_pos,b0,b2,b3,b4,b5,b7,b31,b32,b33,b10,b46,b47,b48,b13,hr,hl,hp,hq,hmm,hfm,fc0,fne,hrow,hrowE,hkl]; rfl)
          refine ⟨?_,?_,?_,?_,?_,?_,?_,?_,?_,?_,?_,?_,?_,?_,rfl,?_,?_,?_,?_,?_,hfm,?_,fun _=>?_,?_,?_,?_,?_,?_,?_,?_,?_,fun h=>by obtain ⟨i2,k⟩:=c10 (by rwa [upL_ne LL (by decide)] at h); first | exact ⟨i2,k⟩ | (refine ⟨i2,?_⟩; simp (disch:=omega) [k] <;> omega),fun h=>by obtain ⟨i1,k⟩:=c11 (by rwa [upL_ne LL (by decide)] at h); first | exact ⟨i1,k⟩ | (refine ⟨i1,?_⟩; simp (disch:=omega) [k] <;> omega),?_,?_,fun h=>by obtain ⟨i1,k⟩:=c14 (by rwa [upL_ne LL (by decide)] at h); first | exact ⟨i1,k⟩ | (refine ⟨i1,?_⟩; simp (disch:=omega) [k] <;> omega),fun h=>nsv (by rw [upL_ne LL (by decide)] at h; exact h),?_⟩ <;> first|omega|assumption|(simp (disch:=omega) [b0,b2,b3,b4,b5,b7,b31,b32,b33,b10,b46,b47,b48,b13,hr,hl,hp,hq,hmm,hfm,fc0,fne,hrow,hrowE,hkl,upL] <;> first|assumption|omega)
         ·have fne:=ne (hC.not hxx (k:=14) rfl (by simp [pre,Region.binds]))
          refine .e ?_ (by simp (disch:=first|exact zd|fail) [if_pos,b0,b2,b3,b4,b5,b7,b31,b32,b33,b10,b46,b47,b48,b13,hr,hl,hp,hq,hmm,hfm,fne,hrow,hrowE,hkl]; rfl)
          refine ⟨?_,?_,?_,?_,?_,?_,?_,?_,?_,?_,?_,?_,?_,?_,rfl,?_,?_,?_,?_,?_,hfm,?_,?_,fun _=>?_,?_,?_,?_,?_,?_,?_,?_,fun h=>by obtain ⟨i2,k⟩:=c10 (by rwa [upL_ne LL (by decide)] at h); first | exact ⟨i2,k⟩ | (refine ⟨i2,?_⟩; simp (disch:=omega) [k] <;> omega),fun h=>by obtain ⟨i1,k⟩:=c11 (by rwa [upL_ne LL (by decide)] at h); first | exact ⟨i1,k⟩ | (refine ⟨i1,?_⟩; simp (disch:=omega) [k] <;> omega),?_,?_,fun h=>by obtain ⟨i1,k⟩:=c14 (by rwa [upL_ne LL (by decide)] at h); first | exact ⟨i1,k⟩ | (refine ⟨i1,?_⟩; simp (disch:=omega) [k] <;> omega),fun h=>nsv (by rw [upL_ne LL (by decide)] at h; exact h),?_⟩ <;> first|omega|assumption|(simp (disch:=omega) [b0,b2,b3,b4,b5,b7,b31,b32,b33,b10,b46,b47,b48,b13,hr,hl,hp,hq,hmm,hfm,fne,hrow,hrowE,hkl,upL] <;> first|assumption|omega)
         ·have fnsv:=nsv (hC.not (hC.not (hC.not (hC.not (hC.not hxx (k:=4) rfl (by simp [pre,Region.binds])) (k:=6) rfl (by simp [pre,Region.binds])) (k:=7) rfl (by simp [pre,Region.binds])) (k:=8) rfl (by simp [pre,Region.binds])) (k:=11) rfl (by simp [pre,Region.binds]))
          have fne:=ne (hC.not hxx (k:=14) rfl (by simp [pre,Region.binds]))
          refine .e ?_ (by simp (disch:=first|exact zd|fail) [if_pos,b0,b2,b3,b4,b5,b7,b31,b32,b33,b10,b46,b47,b48,b13,hr,hl,hp,hq,hmm,hfm,fnsv,fne,hrow,hrowE,hkl]; rfl)
          refine ⟨?_,?_,?_,?_,?_,?_,?_,?_,?_,?_,?_,?_,?_,?_,rfl,?_,?_,?_,?_,?_,hfm,?_,?_,?_,fun _=>?_,?_,?_,?_,?_,?_,?_,fun h=>by obtain ⟨i2,k⟩:=c10 (by rwa [upL_ne LL (by decide)] at h); first | exact ⟨i2,k⟩ | (refine ⟨i2,?_⟩; simp (disch:=omega) [k] <;> omega),fun h=>by obtain ⟨i1,k⟩:=c11 (by rwa [upL_ne LL (by decide)] at h); first | exact ⟨i1,k⟩ | (refine ⟨i1,?_⟩; simp (disch:=omega) [k] <;> omega),?_,?_,fun h=>by obtain ⟨i1,k⟩:=c14 (by rwa [upL_ne LL (by decide)] at h); first | exact ⟨i1,k⟩ | (refine ⟨i1,?_⟩; simp (disch:=omega) [k] <;> omega),fun h=>nsv (by rw [upL_ne LL (by decide)] at h; exact h),?_⟩ <;> first|omega|assumption|(simp (disch:=omega) [b0,b2,b3,b4,b5,b7,b31,b32,b33,b10,b46,b47,b48,b13,hr,hl,hp,hq,hmm,hfm,fnsv,fne,hrow,hrowE,hkl,upL] <;> first|assumption|omega)
         ·have fc3:=c3 (hpp 3 (by simp [pre,Region.binds]))
          have fnsv:=nsv (hC.not (hC.not (hC.not (hC.not hxx (k:=6) rfl (by simp [pre,Region.binds])) (k:=7) rfl (by simp [pre,Region.binds])) (k:=8) rfl (by simp [pre,Region.binds])) (k:=11) rfl (by simp [pre,Region.binds]))
          have fne:=ne (hC.not hxx (k:=14) rfl (by simp [pre,Region.binds]))
          refine .e ?_ (by simp (disch:=first|exact zd|fail) [if_pos,b0,b2,b3,b4,b5,b7,b31,b32,b33,b10,b46,b47,b48,b13,hr,hl,hp,hq,hmm,hfm,fc3,fnsv,fne,hrow,hrowE,hkl]; rfl)
          refine ⟨?_,?_,?_,?_,?_,?_,?_,?_,?_,?_,?_,?_,?_,?_,rfl,?_,?_,?_,?_,?_,hfm,?_,?_,?_,?_,fun _=>?_,?_,?_,?_,?_,?_,fun h=>by obtain ⟨i2,k⟩:=c10 (by rwa [upL_ne LL (by decide)] at h); first | exact ⟨i2,k⟩ | (refine ⟨i2,?_⟩; simp (disch:=omega) [k] <;> omega),fun h=>by obtain ⟨i1,k⟩:=c11 (by rwa [upL_ne LL (by decide)] at h); first | exact ⟨i1,k⟩ | (refine ⟨i1,?_⟩; simp (disch:=omega) [k] <;> omega),?_,?_,fun h=>by obtain ⟨i1,k⟩:=c14 (by rwa [upL_ne LL (by decide)] at h); first | exact ⟨i1,k⟩ | (refine ⟨i1,?_⟩; simp (disch:=omega) [k] <;> omega),fun h=>nsv (by rw [upL_ne LL (by decide)] at h; exact h),?_⟩ <;> first|omega|assumption|(simp (disch:=omega) [b0,b2,b3,b4,b5,b7,b31,b32,b33,b10,b46,b47,b48,b13,hr,hl,hp,hq,hmm,hfm,fc3,fnsv,fne,hrow,hrowE,hkl,upL] <;> first|assumption|omega)
         ·have fnsv:=nsv (hC.not (hC.not (hC.not (hC.not hxx (k:=6) rfl (by simp [pre,Region.binds])) (k:=7) rfl (by simp [pre,Region.binds])) (k:=8) rfl (by simp [pre,Region.binds])) (k:=11) rfl (by simp [pre,Region.binds]))
          have fne:=ne (hC.not hxx (k:=14) rfl (by simp [pre,Region.binds]))
          refine .e ?_ (by simp (disch:=first|exact zd|fail) [if_pos,b0,b2,b3,b4,b5,b7,b31,b32,b33,b10,b46,b47,b48,b13,hr,hl,hp,hq,hmm,hfm,fnsv,fne,hrow,hrowE,hkl]; rfl)
          refine ⟨?_,?_,?_,?_,?_,?_,?_,?_,?_,?_,?_,?_,?_,?_,rfl,?_,?_,?_,?_,?_,hfm,?_,?_,?_,?_,?_,fun _=>?_,?_,?_,?_,?_,fun h=>by obtain ⟨i2,k⟩:=c10 (by rwa [upL_ne LL (by decide)] at h); first | exact ⟨i2,k⟩ | (refine ⟨i2,?_⟩; simp (disch:=omega) [k] <;> omega),fun h=>by obtain ⟨i1,k⟩:=c11 (by rwa [upL_ne LL (by decide)] at h); first | exact ⟨i1,k⟩ | (refine ⟨i1,?_⟩; simp (disch:=omega) [k] <;> omega),?_,?_,fun h=>by obtain ⟨i1,k⟩:=c14 (by rwa [upL_ne LL (by decide)] at h); first | exact ⟨i1,k⟩ | (refine ⟨i1,?_⟩; simp (disch:=omega) [k] <;> omega),fun h=>nsv (by rw [upL_ne LL (by decide)] at h; exact h),?_⟩ <;> first|omega|assumption|(simp (disch:=omega) [b0,b2,b3,b4,b5,b7,b31,b32,b33,b10,b46,b47,b48,b13,hr,hl,hp,hq,hmm,hfm,fnsv,fne,hrow,hrowE,hkl,upL] <;> first|assumption|omega)
         ·have fc4:=c4 (hpp 4 (by simp [pre,Region.binds]))
          have fc5:=c5 (hpp 5 (by simp [pre,Region.binds]))
          have fnsv:=nsv (hC.not (hC.not (hC.not hxx (k:=7) rfl (by simp [pre,Region.binds])) (k:=8) rfl (by simp [pre,Region.binds])) (k:=11) rfl (by simp [pre,Region.binds]))
          have fne:=ne (hC.not hxx (k:=14) rfl (by simp [pre,Region.binds]))
          refine .e ?_ (by simp (disch:=first|exact zd|fail) [if_pos,b0,b2,b3,b4,b5,b7,b31,b32,b33,b10,b46,b47,b48,b13,hr,hl,hp,hq,hmm,hfm,fc4,fc5,fnsv,fne,hrow,hrowE,hkl]; rfl)
          refine ⟨?_,?_,?_,?_,?_,?_,?_,?_,?_,?_,?_,?_,?_,?_,rfl,?_,?_,?_,?_,?_,hfm,?_,?_,?_,?_,?_,?_,fun _=>?_,?_,?_,?_,fun h=>by obtain ⟨i2,k⟩:=c10 (by rwa [upL_ne LL (by decide)] at h); first | exact ⟨i2,k⟩ | (refine ⟨i2,?_⟩; simp (disch:=omega) [k] <;> omega),fun h=>by obtain ⟨i1,k⟩:=c11 (by rwa [upL_ne LL (by decide)] at h); first | exact ⟨i1,k⟩ | (refine ⟨i1,?_⟩; simp (disch:=omega) [k] <;> omega),?_,?_,fun h=>by obtain ⟨i1,k⟩:=c14 (by rwa [upL_ne LL (by decide)] at h); first | exact ⟨i1,k⟩ | (refine ⟨i1,?_⟩; simp (disch:=omega) [k] <;> omega),fun h=>nsv (by rw [upL_ne LL (by decide)] at h; exact h),?_⟩ <;> first|omega|assumption|(simp (disch:=omega) [b0,b2,b3,b4,b5,b7,b31,b32,b33,b10,b46,b47,b48,b13,hr,hl,hp,hq,hmm,hfm,fc4,fc5,fnsv,fne,hrow,hrowE,hkl,upL] <;> first|assumption|omega)
         ·have fc6:=c6 (hpp 6 (by simp [pre,Region.binds]))
          have fnsv:=nsv (hC.not (hC.not hxx (k:=8) rfl (by simp [pre,Region.binds])) (k:=11) rfl (by simp [pre,Region.binds]))
          have fne:=ne (hC.not hxx (k:=14) rfl (by simp [pre,Region.binds]))
          refine .e ?_ (by simp (disch:=first|exact zd|fail) [if_pos,b0,b2,b3,b4,b5,b7,b31,b32,b33,b10,b46,b47,b48,b13,hr,hl,hp,hq,hmm,hfm,fc6,fnsv,fne,hrow,hrowE,hkl]; rfl)
          refine ⟨?_,?_,?_,?_,?_,?_,?_,?_,?_,?_,?_,?_,?_,?_,rfl,?_,?_,?_,?_,?_,hfm,?_,?_,?_,?_,?_,?_,?_,fun _=>?_,?_,?_,fun h=>by obtain ⟨i2,k⟩:=c10 (by rwa [upL_ne LL (by decide)] at h); first | exact ⟨i2,k⟩ | (refine ⟨i2,?_⟩; simp (disch:=omega) [k] <;> omega),fun h=>by obtain ⟨i1,k⟩:=c11 (by rwa [upL_ne LL (by decide)] at h); first | exact ⟨i1,k⟩ | (refine ⟨i1,?_⟩; simp (disch:=omega) [k] <;> omega),?_,?_,fun h=>by obtain ⟨i1,k⟩:=c14 (by rwa [upL_ne LL (by decide)] at h); first | exact ⟨i1,k⟩ | (refine ⟨i1,?_⟩; simp (disch:=omega) [k] <;> omega),fun h=>nsv (by rw [upL_ne LL (by decide)] at h; exact h),?_⟩ <;> first|omega|assumption|(simp (disch:=omega) [b0,b2,b3,b4,b5,b7,b31,b32,b33,b10,b46,b47,b48,b13,hr,hl,hp,hq,hmm,hfm,fc6,fnsv,fne,hrow,hrowE,hkl,upL] <;> first|assumption|omega)
         ·have fc7:=c7 (hpp 7 (by simp [pre,Region.binds]))
          have fnsv:=nsv (hC.not hxx (k:=11) rfl (by simp [pre,Region.binds]))
          have fne:=ne (hC.not hxx (k:=14) rfl (by simp [pre,Region.binds]))
          refine .e ?_ (by simp (disch:=first|exact zd|fail) [if_pos,b0,b2,b3,b4,b5,b7,b31,b32,b33,b10,b46,b47,b48,b13,hr,hl,hp,hq,hmm,hfm,fc7,fnsv,fne,hrow,hrowE,hkl]; rfl)
          refine ⟨?_,?_,?_,?_,?_,?_,?_,?_,?_,?_,?_,?_,?_,?_,rfl,?_,?_,?_,?_,?_,hfm,?_,?_,?_,?_,?_,?_,?_,?_,fun _=>?_,?_,fun h=>by obtain ⟨i2,k⟩:=c10 (by rwa [upL_ne LL (by decide)] at h); first | exact ⟨i2,k⟩ | (refine ⟨i2,?_⟩; simp (disch:=omega) [k] <;> omega),fun h=>by obtain ⟨i1,k⟩:=c11 (by rwa [upL_ne LL (by decide)] at h); first | exact ⟨i1,k⟩ | (refine ⟨i1,?_⟩; simp (disch:=omega) [k] <;> omega),?_,?_,fun h=>by obtain ⟨i1,k⟩:=c14 (by rwa [upL_ne LL (by decide)] at h); first | exact ⟨i1,k⟩ | (refine ⟨i1,?_⟩; simp (disch:=omega) [k] <;> omega),fun h=>nsv (by rw [upL_ne LL (by decide)] at h; exact h),?_⟩ <;> first|omega|assumption|(simp (disch:=omega) [b0,b2,b3,b4,b5,b7,b31,b32,b33,b10,b46,b47,b48,b13,hr,hl,hp,hq,hmm,hfm,fc7,fnsv,fne,hrow,hrowE,hkl,upL] <;> first|assumption|omega)
         ·have fnsv:=nsv (hC.not (hC.not hxx (k:=10) rfl (by simp [pre,Region.binds])) (k:=11) rfl (by simp [pre,Region.binds]))
          have fne:=ne (hC.not hxx (k:=14) rfl (by simp [pre,Region.binds]))
          refine .e ?_ (by simp (disch:=first|exact zd|fail) [if_pos,b0,b2,b3,b4,b5,b7,b31,b32,b33,b10,b46,b47,b48,b13,hr,hl,hp,hq,hmm,hfm,fnsv,fne,hrow,hrowE,hkl]; rfl)
          refine ⟨?_,?_,?_,?_,?_,?_,?_,?_,?_,?_,?_,?_,?_,?_,rfl,?_,?_,?_,?_,?_,hfm,?_,?_,?_,?_,?_,?_,?_,?_,?_,fun _=>?_,fun h=>by obtain ⟨i2,k⟩:=c10 (by rwa [upL_ne LL (by decide)] at h); first | exact ⟨i2,k⟩ | (refine ⟨i2,?_⟩; simp (disch:=omega) [k] <;> omega),fun h=>by obtain ⟨i1,k⟩:=c11 (by rwa [upL_ne LL (by decide)] at h); first | exact ⟨i1,k⟩ | (refine ⟨i1,?_⟩; simp (disch:=omega) [k] <;> omega),?_,?_,fun h=>by obtain ⟨i1,k⟩:=c14 (by rwa [upL_ne LL (by decide)] at h); first | exact ⟨i1,k⟩ | (refine ⟨i1,?_⟩; simp (disch:=omega) [k] <;> omega),fun h=>nsv (by rw [upL_ne LL (by decide)] at h; exact h),?_⟩ <;> first|omega|assumption|(simp (disch:=omega) [b0,b2,b3,b4,b5,b7,b31,b32,b33,b10,b46,b47,b48,b13,hr,hl,hp,hq,hmm,hfm,fnsv,fne,hrow,hrowE,hkl,upL] <;> first|assumption|omega)
         ·have fc9:=c9 (hpp 9 (by simp [pre,Region.binds]))
          have fnsv:=nsv (hC.not hxx (k:=11) rfl (by simp [pre,Region.binds]))
          have fne:=ne (hC.not hxx (k:=14) rfl (by simp [pre,Region.binds]))
          refine .e ?_ (by simp (disch:=first|exact zd|fail) [if_pos,b0,b2,b3,b4,b5,b7,b31,b32,b33,b10,b46,b47,b48,b13,hr,hl,hp,hq,hmm,hfm,fc9,fnsv,fne,hrow,hrowE,hkl]; rfl)
          refine ⟨?_,?_,?_,?_,?_,?_,?_,?_,?_,?_,?_,?_,?_,?_,rfl,?_,?_,?_,?_,?_,fun q a b c d=>by simp (disch:=omega) [hfm q a b c d],?_,?_,?_,?_,?_,?_,?_,?_,?_,?_,fun _=>⟨mm,by simp (disch:=omega) <;> first | omega | assumption⟩,fun h=>by obtain ⟨i1,k⟩:=c11 (by rwa [upL_ne LL (by decide)] at h); first | exact ⟨i1,k⟩ | (refine ⟨i1,?_⟩; simp (disch:=omega) [k] <;> omega),?_,?_,fun h=>by obtain ⟨i1,k⟩:=c14 (by rwa [upL_ne LL (by decide)] at h); first | exact ⟨i1,k⟩ | (refine ⟨i1,?_⟩; simp (disch:=omega) [k] <;> omega),fun h=>(nsv (by rw [upL_ne LL (by decide)] at h; exact h)).imp id fun ⟨a,b,c⟩=>⟨a,by have:=hpx.2; simp (disch:=omega) [b],c⟩,?_⟩ <;> first|omega|assumption|(simp (disch:=omega) [b0,b2,b3,b4,b5,b7,b31,b32,b33,b10,b46,b47,b48,b13,hr,hl,hp,hq,hmm,hfm,fc9,fnsv,fne,hrow,hrowE,hkl,upL] <;> first|assumption|omega)
         ·have fc8:=c8 (hpp 8 (by simp [pre,Region.binds]))
          have fc10:=c10 (hpp 10 (by simp [pre,Region.binds]))
          have fnsv:=nsv hxx
          have fne:=ne (hC.not hxx (k:=14) rfl (by simp [pre,Region.binds]))
          obtain ⟨i2,f93,fh2,fl2,fu2⟩:=id fc10
          obtain ⟨dd,hdd⟩ : ∃ dd : Option Nat,(dd = none ∧ sv = .nsl ∧ seg = [] ∧ px = ie) ∨ (dd = some px ∧ sv = .osl px 0 seg.length ∧ H px = some (1,wd .i64 seg) ∧ px ≠ ie):=by
            rcases fnsv with ⟨a,b,c⟩ | ⟨a,b,c⟩
            · exact ⟨none,.inl ⟨rfl,a,b,c⟩⟩
            · exact ⟨some px,.inr ⟨rfl,a,b,c⟩⟩
          refine AOPS.opapp (d:=dd) (z:=1) (es:=wd .i64 (seg ++ [(n : Int)])) ?_ (by simp) (by simp) ?_
          · have hw1 : ∀ l : List Int,(wd .i64 l).length = l.length:=fun l=>List.length_map _
            have htl : List.take seg.length (wd .i64 seg) = wd .i64 seg:=List.take_of_length_le (by rw [hw1]; exact Nat.le_refl _)
            have hq1 : (seg.length + 1) * 8 ≤ 140737488355328:=by omega
            have hq2 : seg.length ≤ 9223372036854775806:=by omega
            have ht1 : List.take 1 (wd .i64 [(n : Int)]) = wd .i64 [(n : Int)]:=rfl
            have hne1 : ¬ wd .i64 [(n : Int)] = []:=List.cons_ne_nil _ _
            rcases hdd with ⟨rfl,rfl,rfl,rfl⟩ | ⟨rfl,rfl,h3,h4⟩
            · simp (disch:=omega) [fc8,f93,fh2,ht1,wd_app2,hne1]; try rfl
            · simp (disch:=omega) [fc8,f93,fh2,wd_append,hw1,h3,htl,hq1,hq2,ht1,wd_app2]; try rfl
          have hdr : ∀ q,q ≠ px → hdrop H dd q = H q:=fun q hq=>by rcases hdd with ⟨rfl,_⟩ | ⟨rfl,_⟩ <;> simp [hdrop,hupd,hq]
          have hdi : hdrop H dd ie = H ie:=by rcases hdd with ⟨rfl,_⟩ | ⟨rfl,_,_,h⟩ <;> simp [hdrop,hupd]; intro h'; exact absurd h'.symm h
          simp only [puts_some]
          refine AOPS.nil ?_
          refine ⟨?_,?_,?_,?_,?_,?_,?_,?_,?_,?_,?_,?_,?_,?_,rfl,?_,?_,?_,?_,?_,fun q a b c d=>by simp (disch:=omega) [hdr q d,hfm q a b c d],?_,?_,?_,?_,?_,?_,?_,?_,?_,?_,fun h=>by obtain ⟨i2,k⟩:=c10 (by rwa [upL_ne LL (by decide)] at h); first | exact ⟨i2,k⟩ | (refine ⟨i2,?_⟩; simp (disch:=omega) [k,hdr,hdi] <;> omega),fun _=>⟨mm,by simp (disch:=omega) <;> first | omega | assumption⟩,?_,?_,fun h=>by obtain ⟨i1,k⟩:=c14 (by rwa [upL_ne LL (by decide)] at h); first | exact ⟨i1,k⟩ | (refine ⟨i1,?_⟩; simp (disch:=omega) [k,hdr,hdi] <;> omega),fun h=>by simp [upL] at h,?_⟩ <;> first|omega|assumption|(simp (disch:=omega) [b0,b2,b3,b4,b5,b7,b31,b32,b33,b10,b46,b47,b48,b13,hr,hl,hp,hq,hmm,hfm,fc8,fc10,fnsv,fne,hdr,hdi,hrow,hrowE,hkl,upL] <;> first|assumption|omega)
         ·have fc0:=c0 (hpp 0 (by simp [pre,Region.binds]))
          have fc1:=c1 (hpp 1 (by simp [pre,Region.binds]))
          have fc2:=c2 (hpp 2 (by simp [pre,Region.binds]))
          have fc3:=c3 (hpp 3 (by simp [pre,Region.binds]))
          have fc4:=c4 (hpp 4 (by simp [pre,Region.binds]))
          have fc5:=c5 (hpp 5 (by simp [pre,Region.binds]))
          have fc6:=c6 (hpp 6 (by simp [pre,Region.binds]))
          have fc7:=c7 (hpp 7 (by simp [pre,Region.binds]))
          have fc8:=c8 (hpp 8 (by simp [pre,Region.binds]))
          have fc9:=c9 (hpp 9 (by simp [pre,Region.binds]))
          have fc10:=c10 (hpp 10 (by simp [pre,Region.binds]))
          have fc11:=c11 (hpp 11 (by simp [pre,Region.binds]))
          have fne:=ne (hC.not (hC.not hxx (k:=13) rfl (by simp [pre,Region.binds])) (k:=14) rfl (by simp [pre,Region.binds]))
          refine .e ?_ (by simp (disch:=first|exact zd|fail) [if_pos,b0,b2,b3,b4,b5,b7,b31,b32,b33,b10,b46,b47,b48,b13,hr,hl,hp,hq,hmm,hfm,fc0,fc1,fc2,fc3,fc4,fc5,fc6,fc7,fc8,fc9,fc10,fc11,fne,hrow,hrowE,hkl]; rfl)
          refine ⟨?_,?_,?_,?_,?_,?_,?_,?_,?_,?_,?_,?_,?_,?_,rfl,?_,?_,?_,?_,?_,hfm,?_,?_,?_,?_,?_,?_,?_,?_,?_,?_,fun h=>by obtain ⟨i2,k⟩:=c10 (by rwa [upL_ne LL (by decide)] at h); first | exact ⟨i2,k⟩ | (refine ⟨i2,?_⟩; simp (disch:=omega) [k] <;> omega),fun h=>by obtain ⟨i1,k⟩:=c11 (by rwa [upL_ne LL (by decide)] at h); first | exact ⟨i1,k⟩ | (refine ⟨i1,?_⟩; simp (disch:=omega) [k] <;> omega),fun _=>?_,?_,fun h=>by obtain ⟨i1,k⟩:=c14 (by rwa [upL_ne LL (by decide)] at h); first | exact ⟨i1,k⟩ | (refine ⟨i1,?_⟩; simp (disch:=omega) [k] <;> omega),fun h=>nsv (by rw [upL_ne LL (by decide)] at h; exact h),?_⟩ <;> first|omega|assumption|(simp (disch:=omega) [b0,b2,b3,b4,b5,b7,b31,b32,b33,b10,b46,b47,b48,b13,hr,hl,hp,hq,hmm,hfm,fc0,fc1,fc2,fc3,fc4,fc5,fc6,fc7,fc8,fc9,fc10,fc11,fne,hrow,hrowE,hkl,upL] <;> first|assumption|omega)
         ·have fc0:=c0 (hpp 0 (by simp [pre,Region.binds]))
          have fc1:=c1 (hpp 1 (by simp [pre,Region.binds]))
          have fc2:=c2 (hpp 2 (by simp [pre,Region.binds]))
          have fc3:=c3 (hpp 3 (by simp [pre,Region.binds]))
          have fc4:=c4 (hpp 4 (by simp [pre,Region.binds]))
          have fc5:=c5 (hpp 5 (by simp [pre,Region.binds]))
          have fc6:=c6 (hpp 6 (by simp [pre,Region.binds]))
          have fc7:=c7 (hpp 7 (by simp [pre,Region.binds]))
          have fc8:=c8 (hpp 8 (by simp [pre,Region.binds]))
          have fc9:=c9 (hpp 9 (by simp [pre,Region.binds]))
          have fc10:=c10 (hpp 10 (by simp [pre,Region.binds]))
          have fc11:=c11 (hpp 11 (by simp [pre,Region.binds]))
          have fc12:=c12 (hpp 12 (by simp [pre,Region.binds]))
          have fne:=ne (hC.not hxx (k:=14) rfl (by simp [pre,Region.binds]))
          refine .e ?_ (by simp (disch:=first|exact zd|fail) [if_pos,b0,b2,b3,b4,b5,b7,b31,b32,b33,b10,b46,b47,b48,b13,hr,hl,hp,hq,hmm,hfm,fc0,fc1,fc2,fc3,fc4,fc5,fc6,fc7,fc8,fc9,fc10,fc11,fc12,fne,hrow,hrowE,hkl]; rfl)
          refine ⟨?_,?_,?_,?_,?_,?_,?_,?_,?_,?_,?_,?_,?_,?_,rfl,?_,?_,?_,?_,?_,hfm,?_,?_,?_,?_,?_,?_,?_,?_,?_,?_,fun h=>by obtain ⟨i2,k⟩:=c10 (by rwa [upL_ne LL (by decide)] at h); first | exact ⟨i2,k⟩ | (refine ⟨i2,?_⟩; simp (disch:=omega) [k] <;> omega),fun h=>by obtain ⟨i1,k⟩:=c11 (by rwa [upL_ne LL (by decide)] at h); first | exact ⟨i1,k⟩ | (refine ⟨i1,?_⟩; simp (disch:=omega) [k] <;> omega),?_,fun _=>?_,fun h=>by obtain ⟨i1,k⟩:=c14 (by rwa [upL_ne LL (by decide)] at h); first | exact ⟨i1,k⟩ | (refine ⟨i1,?_⟩; simp (disch:=omega) [k] <;> omega),fun h=>nsv (by rw [upL_ne LL (by decide)] at h; exact h),?_⟩ <;> first|omega|assumption|(simp (disch:=omega) [b0,b2,b3,b4,b5,b7,b31,b32,b33,b10,b46,b47,b48,b13,hr,hl,hp,hq,hmm,hfm,fc0,fc1,fc2,fc3,fc4,fc5,fc6,fc7,fc8,fc9,fc10,fc11,fc12,fne,hrow,hrowE,hkl,upL] <;> first|assumption|omega)
         ·have fc0:=c0 (hpp 0 (by simp [pre,Region.binds]))
          have fc1:=c1 (hpp 1 (by simp [pre,Region.binds]))
          have fc2:=c2 (hpp 2 (by simp [pre,Region.binds]))
          have fc3:=c3 (hpp 3 (by simp [pre,Region.binds]))
          have fc4:=c4 (hpp 4 (by simp [pre,Region.binds]))
          have fc5:=c5 (hpp 5 (by simp [pre,Region.binds]))
          have fc6:=c6 (hpp 6 (by simp [pre,Region.binds]))
          have fc7:=c7 (hpp 7 (by simp [pre,Region.binds]))
          have fc8:=c8 (hpp 8 (by simp [pre,Region.binds]))
          have fc9:=c9 (hpp 9 (by simp [pre,Region.binds]))
          have fc10:=c10 (hpp 10 (by simp [pre,Region.binds]))
          have fc11:=c11 (hpp 11 (by simp [pre,Region.binds]))
          have fc13:=c13 (hpp 13 (by simp [pre,Region.binds]))
          have fne:=ne hxx
          obtain ⟨i1,f94,fh1,fl1,fu1⟩:=id fc11
          refine .e ?_ (by simp (disch:=first|exact zd|fail) [if_pos,b0,b2,b3,b4,b5,b7,b31,b32,b33,b10,b46,b47,b48,b13,hr,hl,hp,hq,hmm,hfm,fc0,fc1,fc2,fc3,fc4,fc5,fc6,fc7,fc8,fc9,fc10,fc11,fc13,fne,f94,fh1,hrow,hrowE,hkl]; rfl)
          refine ⟨?_,?_,?_,?_,?_,?_,?_,?_,?_,?_,?_,?_,?_,?_,rfl,?_,?_,?_,?_,?_,fun q a b c d=>by simp (disch:=omega) [hfm q a b c d],?_,?_,?_,?_,?_,?_,?_,?_,?_,?_,fun h=>by obtain ⟨i2,k⟩:=c10 (by rwa [upL_ne LL (by decide)] at h); first | exact ⟨i2,k⟩ | (refine ⟨i2,?_⟩; simp (disch:=omega) [k] <;> omega),fun h=>by obtain ⟨i1,k⟩:=c11 (by rwa [upL_ne LL (by decide)] at h); first | exact ⟨i1,k⟩ | (refine ⟨i1,?_⟩; simp (disch:=omega) [k] <;> omega),?_,?_,fun _=>⟨i1,by simp (disch:=omega) [fh1,hrow] <;> first | omega | assumption⟩,fun h=>by rw [upL_ne LL (by decide),hpp 11 (by simp [pre,Region.binds])] at h; simp at h,fun h=>by simp [upL] at h⟩ <;> first|omega|assumption|(simp (disch:=omega) [b0,b2,b3,b4,b5,b7,b31,b32,b33,b10,b46,b47,b48,b13,hr,hl,hp,hq,hmm,hfm,fc0,fc1,fc2,fc3,fc4,fc5,fc6,fc7,fc8,fc9,fc10,fc11,fc13,fne,f94,fh1,hrow,hrowE,hkl,upL] <;> first|assumption|omega)
        ·rintro LL ⟨e,H,mm,nt⟩ hL ⟨b0,b2,b3,b4,b5,b7,b31,b32,b33,b10,b46,b47,b48,b13,hnt,hr,hl,hp,hq,hmm,hfm,c0,c1,c2,c3,c4,c5,c6,c7,c8,c9,c10,c11,c12,c13,c14,nsv,ne⟩
         replace c0:=c0 (hL 0 (by simp))
         replace c1:=c1 (hL 1 (by simp))
         replace c2:=c2 (hL 2 (by simp))
         replace c3:=c3 (hL 3 (by simp))
         replace c4:=c4 (hL 4 (by simp))
         replace c5:=c5 (hL 5 (by simp))
         replace c6:=c6 (hL 6 (by simp))
         replace c7:=c7 (hL 7 (by simp))
         replace c8:=c8 (hL 8 (by simp))
         replace c9:=c9 (hL 9 (by simp))
         replace c10:=c10 (hL 10 (by simp))
         replace c11:=c11 (hL 11 (by simp))
         replace c12:=c12 (hL 12 (by simp))
         replace c13:=c13 (hL 13 (by simp))
         replace c14:=c14 (hL 14 (by simp))
         clear nsv ne
         simp only [] at b0 b2 b3 b4 b5 b7 b31 b32 b33 b10 b46 b47 b48 b13 hnt hr hl hp hq hmm hfm c0 c1 c2 c3 c4 c5 c6 c7 c8 c9 c10 c11 c12 c13 c14
         subst hnt
         obtain ⟨i1,hie1,hi1,xi1,yi1⟩:=c14
         obtain ⟨D',hDn',hED',hDl',hD'⟩:=hfin i1 H mm (by omega) yi1 hi1 hie1 (fun q a b c d=>by rw [hfm q a (by omega) c d,hH0])
         have hev' : EdV H m1 mm (.osl ie 0 ROWS.length) D':=.inr ⟨ie,hDn',by rw [hDl'],hED'⟩
         refine J21 _ _ ?_
         refine ⟨(.osl ie 0 ROWS.length),D',by first|omega|(simp;done)|(simp;omega),hiq,hev',hD',hMM,?_,?_,?_,?_,?_,?_,?_,?_,?_,?_,?_,?_,?_,?_,?_,?_,?_,?_,?_,?_,?_,rfl⟩ <;> first|(simp (disch:=omega) [b0,b2,b3,b4,b5,b7,b31,b32,b33,b10,b46,b47,b48,b13,hr,hl,hp,hq];done)|omega|(simp;done)|(simp;omega)
       refine .q ?_
       refine .c (t:=!decide (((fr,(v : Int)) : Ek) ∈ E.map (·.1))) (fun h68=>?_) (fun h68=>?_)
       ·try simp only[dc]at h68
        have hnm : ¬ ((fr,(v : Int)) : Ek) ∈ E.map (·.1):=by simpa using h68
        have hDE : D.length = E.length:=by rw [← hD,List.length_map]
        have hMN : memE (gatF (evV L v (k + 1))) = fupd (memE E) ((fr,(v : Int)) : Ek) (.int .i64 (D.length : Int)):=by rw [hstp,addE_new hnm,hDE,memE_new hnm n]
        have hDN : ∀ i1 : Nat,(D ++ [((((fr,(v : Int)) : Ek),[(n : Int)]),i1)]).map (·.1) = gatF (evV L v (k + 1)):=fun i1=>by rw [hstp,addE_new hnm,List.map_append,hD]; rfl
        refine .sq fun K28 hK28=>?_
        rcases hev with ⟨hD0,rfl⟩ | ⟨ix,hDn,rfl,hEN⟩
        ·refine .up ?_
         refine .r ?_ (by simp (disch:=first|exact zd|fail) [g3,Hp,hD0]; rfl)
         refine hK28 _ _ ?_
         refine .sq fun K29 hK29=>?_
         refine .region ?_
         refine .k 3 ?_
         refine .e ?_ (by simp (disch:=first|exact zd|fail) [g5,szME,agME]; rfl)
         refine .update (a:=((fr,(v : Int)) : Ek)) (x:=.int .i64 (D.length : Int)) keyE unME rfl (hm:=by simp (disch:=omega) [g5]) (hk:=by simp (disch:=omega) [kvE]) rfl hok (by simp (disch:=omega) [hD0]) rfl (by simp) rfl hMM ?_
         refine .nil ?_
         refine hK29 _ _ ?_
         have hrw : (D.map ecl ++ [([.int .i64 fr,.int .i64 (v : Int),.nsl] : List AV)])[D.length]? = some [.int .i64 fr,.int .i64 (v : Int),.nsl]:=by rw [List.getElem?_append_right (by simp)]; simp
         have hsv0 : ∀ s : St,((AV.nsl = .nsl ∧ ([] : List Int) = [] ∧ (mm + 1 + 1) = (mm + 1 + 1)) ∨ (AV.nsl = .osl (mm + 1 + 1) 0 ([] : List Int).length ∧ s.heap (mm + 1 + 1) = some (1,wd .i64 []) ∧ (mm + 1 + 1) ≠ (mm + 1 + 1))):=fun _=>.inl ⟨rfl,rfl,rfl⟩
         have hset : ∀ y : List AV,(D.map ecl ++ [([.int .i64 fr,.int .i64 (v : Int),.nsl] : List AV)]).set D.length y = D.map ecl ++ [y]:=fun y=>by rw [List.set_append_right _ _ (by simp)]; simp
         refine .up ?_
         refine .region ?_
         refine .k 6 ?_ (by simp (disch:=first|exact zd|fail) [List.take_succ_cons,List.take_zero,g3,g7,Hp]; rfl)
         refine AOPS.opapp (by simp (disch:=first|exact zd|fail) [if_pos,wd_append,wd_take,wd_drop,List.nil_append,Hp,g3]; first | rfl | exact ⟨rfl,rfl⟩ | exact ⟨rfl,rfl,rfl⟩) (by simp) (by simp) ?_
         simp only [puts_some,hdrop]
         refine .e ?_ (by simp (disch:=first|exact zd|fail) [g3,g7,Hp]; rfl)
         refine J26 _ _ ?_
         refine ⟨(D.map ecl ++ [[.int .i64 fr,.int .i64 (v : Int),.nsl]]),D.length,(mm + 1 + 1),.nsl,[],(mm + 1 + 1),by first|omega|(simp;done)|(simp;omega),by first|omega|(simp;done)|(simp;omega),⟨by first|omega|(simp;done)|(simp;omega),by first|omega|(simp;done)|(simp;omega)⟩,hrw,by first|omega|(simp;done)|(simp;omega),by first|omega|(simp;done)|(simp;omega),hsv0 _,fun i1 H' hi' a1 a2 a3 a4 a5=>⟨D ++ [((((fr,(v : Int)) : Ek),[(n : Int)]),i1)],by simp,by rw [hD0]; exact edN_one (by omega) (Nat.lt_of_le_of_lt (by first|omega|(simp at a1;omega)|(simp only [] at a1;omega)) a2) a2 ⟨(by first|omega|(simp at a1;omega)|(simp only [] at a1;omega)),(by first|omega|(simp at a1;omega)|(simp only [] at a1;omega))⟩ a3 (by rw [a4,hset,hD0]; rfl),by simp,hDN i1⟩,by first|(rw [hMN]; simp [mupd])|(rw [hMO]; exact hMM),?_,?_,?_,?_,?_,?_,?_,?_,?_,?_,?_,?_,?_,?_,?_,?_,?_,?_,?_,?_,?_,?_,?_,?_,rfl⟩ <;> first|(simp (disch:=omega) [g0,g2,g3,g4,g5,g7,g31,g32,g33,g46,g47,g48,Hr,Hp,Hl,Hq,hn,hD0];done)|omega|(simp;done)|(simp;omega)
        ·have htop:=hEN.top
         have hix:=hEN.ixr
         refine .up ?_
         refine .r ?_ (by simp (disch:=first|exact zd|fail) [g3,Hp,htop]; rfl)
         refine hK28 _ _ ?_
         refine .sq fun K30 hK30=>?_
         refine .region ?_
         refine .k 3 ?_
         refine .e ?_ (by simp (disch:=first|exact zd|fail) [g5,szME,agME]; rfl)
         refine .update (a:=((fr,(v : Int)) : Ek)) (x:=.int .i64 (D.length : Int)) keyE unME rfl (hm:=by simp (disch:=omega) [g5]) (hk:=by simp (disch:=omega) [kvE]) rfl hok (by simp (disch:=omega)) rfl (by simp) rfl hMM ?_
         refine .nil ?_
         refine hK30 _ _ ?_
         have hrw : (D.map ecl ++ [([.int .i64 fr,.int .i64 (v : Int),.nsl] : List AV)])[D.length]? = some [.int .i64 fr,.int .i64 (v : Int),.nsl]:=by rw [List.getElem?_append_right (by simp)]; simp
         have hsv0 : ∀ s : St,((AV.nsl = .nsl ∧ ([] : List Int) = [] ∧ (mm + 1 + 1) = (mm + 1 + 1)) ∨ (AV.nsl = .osl (mm + 1 + 1) 0 ([] : List Int).length ∧ s.heap (mm + 1 + 1) = some (1,wd .i64 []) ∧ (mm + 1 + 1) ≠ (mm + 1 + 1))):=fun _=>.inl ⟨rfl,rfl,rfl⟩
         have hset : ∀ y : List AV,(D.map ecl ++ [([.int .i64 fr,.int .i64 (v : Int),.nsl] : List AV)]).set D.length y = D.map ecl ++ [y]:=fun y=>by rw [List.set_append_right _ _ (by simp)]; simp
         have htop:=hEN.top
         have hix:=hEN.ixr
         have hlm : (D.map ecl).length = D.length:=List.length_map _
         have htkD : List.take D.length (D.map ecl) = D.map ecl:=List.take_of_length_le (Nat.le_of_eq hlm)
         have hc1 : (D.length + 1) * 40 ≤ 140737488355328:=by omega
         have hc2 : D.length ≤ 9223372036854775806:=by omega
         have hqx : iq ≠ ix:=fun e=>by rw [e,htop] at Hq; simp at Hq
         refine .up ?_
         refine .region ?_
         refine .k 6 ?_ (by simp (disch:=first|exact zd|fail) [List.take_succ_cons,List.take_zero,g3,g7,Hp]; rfl)
         refine AOPS.opapp (by simp (disch:=first|exact zd|fail) [if_pos,wd_append,wd_take,wd_drop,List.nil_append,Hp,g3,htop,eclTT,hlm,htkD,hc1,hc2]; first | rfl | exact ⟨rfl,rfl⟩ | exact ⟨rfl,rfl,rfl⟩) (by simp) (by simp) ?_
         simp only [puts_some,hdrop]
         refine .e ?_ (by simp (disch:=first|exact zd|fail) [g3,g7,Hp]; rfl)
         refine J26 _ _ ?_
         refine ⟨(D.map ecl ++ [[.int .i64 fr,.int .i64 (v : Int),.nsl]]),D.length,(mm + 1 + 1),.nsl,[],(mm + 1 + 1),by first|omega|(simp;done)|(simp;omega),by first|omega|(simp;done)|(simp;omega),⟨by first|omega|(simp;done)|(simp;omega),by first|omega|(simp;done)|(simp;omega)⟩,hrw,by first|omega|(simp;done)|(simp;omega),by first|omega|(simp;done)|(simp;omega),hsv0 _,fun i1 H' hi' a1 a2 a3 a4 a5=>⟨D ++ [((((fr,(v : Int)) : Ek),[(n : Int)]),i1)],by simp,hEN.push (by first|omega|(simp at a1;omega)|(simp only [] at a1;omega)) a2 (by omega) (Nat.lt_of_le_of_lt (by first|omega|(simp at a1;omega)|(simp only [] at a1;omega)) a2) (by first|omega|(simp at a1;omega)|(simp only [] at a1;omega)) a3 (by rw [a4,hset]; rfl) (fun q b1 b2 b3=>by rw [a5 q b1 (by first|omega|(simp;omega)) (by omega) (by omega)]; simp (disch:=omega)),by simp,hDN i1⟩,by first|(rw [hMN]; simp [mupd])|(rw [hMO]; exact hMM),?_,?_,?_,?_,?_,?_,?_,?_,?_,?_,?_,?_,?_,?_,?_,?_,?_,?_,?_,?_,?_,?_,?_,?_,rfl⟩ <;> first|(simp (disch:=omega) [g0,g2,g3,g4,g5,g7,g31,g32,g33,g46,g47,g48,Hr,Hp,Hl,Hq,hn];done)|omega|(simp;done)|(simp;omega)
       ·try simp only[dc]at h68
        have hmem : ((fr,(v : Int)) : Ek) ∈ E.map (·.1):=by simpa using h68
        obtain ⟨e0,he0,hek⟩:=ixE_get hmem
        obtain ⟨kk,hkk⟩ : ∃ kk,kk = ixE E ((fr,(v : Int)) : Ek):=⟨_,rfl⟩
        rw [← hkk] at he0
        have hDk0 : (D.map (·.1))[kk]? = some e0:=by rw [hD]; exact he0
        rw [List.getElem?_map] at hDk0
        obtain ⟨p0,hp0,hpe⟩:=Option.map_eq_some_iff.1 hDk0
        obtain ⟨⟨ke,seg⟩,px⟩:=p0
        simp only [] at hpe
        subst hpe
        simp only [] at hek
        subst hek
        have hkv2 : kv = .int .i64 (kk : Int):=by rw [hkv,memE_get,if_pos hmem,hkk]; rfl
        have hDn : D ≠ []:=fun e=>by rw [e] at hp0; simp at hp0
        obtain ⟨ix,rfl,hEN⟩:=hev.osl hDn
        obtain ⟨f1,f2,f3,f4⟩:=hEN.at hp0
        have htop:=hEN.top
        have hix:=hEN.ixr
        simp only [] at f1 f2 f3 f4
        have hMO : memE (gatF (evV L v (k + 1))) = memE E:=by rw [hstp,memE_old hmem]
        have hsb : seg.length ≤ 67200:=by
          have h1 : seg.length ≤ _:=gatF_seg (A:=evV L v k) (e:=(((fr,(v : Int)) : Ek),seg)) (by rw [← hE,← hD]; exact List.mem_map_of_mem (List.mem_of_getElem? hp0))
          have h2:=evV_len L v k
          have h3 : (v + 1) * L.length ≤ 1680 * 40:=Nat.mul_le_mul (by omega) z1
          omega
        have hDO : ∀ i1 : Nat,(D.set kk ((((fr,(v : Int)) : Ek),seg ++ [(n : Int)]),i1)).map (·.1) = gatF (evV L v (k + 1)):=fun i1=>by rw [hstp,addE_old (by rw [hE]; exact (gatF_ok _).1) hmem,← hkk,List.getD_eq_getElem?_getD,he0,List.map_set,hD]; rfl
        have hrw : (D.map ecl)[kk]? = some [.int .i64 fr,.int .i64 (v : Int),.osl px 0 seg.length]:=by rw [List.getElem?_map,hp0]; rfl
        refine .skip ?_
        refine J26 _ _ ?_
        refine ⟨(D.map ecl),kk,ix,(.osl px 0 seg.length),seg,px,by first|omega|(simp;done)|(simp;omega),by first|omega|(simp;done)|(simp;omega),⟨by first|omega|(simp;done)|(simp;omega),by first|omega|(simp;done)|(simp;omega)⟩,hrw,by first|omega|(simp;done)|(simp;omega),by first|omega|(simp;done)|(simp;omega),.inr ⟨rfl,by simp (disch:=omega) [f4],f3⟩,fun i1 H' hi' a1 a2 a3 a4 a5=>⟨_,by simpa using hDn,hEN.set hp0 (by first|omega|(simp at a1;omega)|(simp only [] at a1;omega)) a2 a3 (by rw [a4]; simp [ecl]) (fun q b1 b2 b3 b4=>by have b4 : q ≠ px:=b4; rw [a5 q b1 (by first|omega|(simp;omega)) b3 b4]; simp (disch:=omega)),by simp,hDO i1⟩,by first|(rw [hMN]; simp [mupd])|(rw [hMO]; exact hMM),?_,?_,?_,?_,?_,?_,?_,?_,?_,?_,?_,?_,?_,?_,?_,?_,?_,?_,?_,?_,?_,?_,?_,?_,rfl⟩ <;> first|(simp (disch:=omega) [g0,g2,g3,g4,g5,g7,g31,g32,g33,g46,g47,g48,Hr,Hp,Hl,Hq,hn,hkv2,htop,List.length_map];done)|omega|(simp;done)|(simp;omega)
      ·try simp only[dc]at h57
       have hstp : evV L v (k + 1) = evV L v k:=by rw [evV_step htkZ,rowA_no (by omega),List.append_nil]
       refine .skip ?_
       refine J21 _ _ ?_
       refine ⟨ev,D,by first|omega|(simp;omega),hiq,by exact hev,by rw [hstp]; exact hD,by rw [hstp]; exact hMM,?_,?_,?_,?_,?_,?_,?_,?_,?_,?_,?_,?_,?_,?_,?_,?_,?_,?_,?_,?_,?_,rfl⟩ <;> first|(simp (disch:=omega) [g0,g2,g3,g4,g5,g7,g31,g32,g33,g46,g47,g48,Hr,Hp,Hl,Hq,hn];done)|omega|(simp;done)|(simp;omega)
     ·try simp only[dc]at h49
      have hkz : k = Z.length:=by omega
      subst hkz
      have hln : lasL L v (Z.take Z.length) = lasL L (v + 1) []:=by rw [List.take_length,hZ,lasL_next]
      rw [hln] at Hl
      have hpv' : PtV L H m1 mm (v + 1) (.osl iq 0 (v + 1)):=.inr ⟨iq,by omega,rfl,Hq,hiq,xq⟩
      have hev':=hev
      have hD' : D.map (·.1) = gatF (evA L (v + 1)):=by rw [hD,evV_end (by rw [hZ]; exact Nat.le_refl _)]
      have hMM' : MM mp = some (memE (gatF (evA L (v + 1)))):=by rw [hMM,evV_end (by rw [hZ]; exact Nat.le_refl _)]
      refine .exit ?_
      refine hK13 _ _ ?_
      refine .up ?_
      refine .r ?_ (by simp (disch:=first|exact zd|fail) [g33]; rfl)
      refine ⟨(hitP L).length - (v + 1),by omega,v + 1,(.osl iq 0 (v + 1)),ev,D,rfl,by omega,hmx,hpv',hev',hD',hMM',?_,?_,?_,?_,?_,?_,?_,?_,?_,?_,?_,?_,?_,?_,rfl⟩ <;> first|(simp (disch:=omega) [g0,g2,g3,g4,g5,g7,g31,g32,g33,g46,g47,g48,Hr,Hp,Hl,Hq];done)|omega|(simp;done)|(simp;omega)
    rcases hpv with ⟨hv0,rfl⟩ | ⟨iq,hv0,rfl,hq,hq1,hq2⟩
    ·have hv1 : v + 1 = 1:=by omega
     have hmt1 : List.map cellsG (List.take 1 (hitP L)) = [[.int .u64 g.1.x.a,.int .u64 g.1.x.b,.int .u64 g.1.x.c,.int .u64 g.1.x.d,.int .u64 g.1.y.a,.int .u64 g.1.y.b,.int .u64 g.1.y.c,.int .u64 g.1.y.d,.int .u64 g.1.w.a,.int .u64 g.1.w.b,.int .u64 g.1.w.c,.int .u64 g.1.w.d]]:=by rw [← hv1,htkg,hv0,List.map_append]; simp [hgc]
     refine .up ?_
     refine .region ?_
     refine .k 5 ?_ (by simp (disch:=first|exact zd|fail) [List.take_succ_cons,List.take_zero,g3,Hp,g31,g32,g33]; rfl)
     refine AOPS.opapp (by simp (disch:=first|exact zd|fail) [if_pos,wd_append,wd_take,wd_drop,List.nil_append,Hp,g3]; first | rfl | exact ⟨rfl,rfl⟩ | exact ⟨rfl,rfl,rfl⟩) (by simp) (by simp) ?_
     simp only [puts_some,hdrop]
     refine .e ?_ (by simp (disch:=first|exact zd|fail) [g3,Hp,g31,g32,g33]; rfl)
     refine J15 _ _ ?_
     refine ⟨(mm + 1 + 1),by first|omega|(simp;omega),by first|omega|(simp;omega),hev.to (Nat.le_refl _) (by first|omega|(simp;omega)) (fun k h1 h2 h3=>by have h3:=h3; simp (disch:=omega)),hMM,?_,?_,?_,?_,?_,?_,?_,?_,?_,?_,?_,?_,?_,?_,?_,?_,?_,?_,rfl⟩ <;> first|(simp (disch:=omega) [g0,g2,g3,g4,g5,g31,g32,g33,Hr,Hp,Hl,hv1,hmt1];done)|omega|(simp;done)|(simp;omega)
    ·have hmt : List.map cellsG (List.take (v + 1) (hitP L)) = List.map cellsG (List.take v (hitP L)) ++ [[.int .u64 g.1.x.a,.int .u64 g.1.x.b,.int .u64 g.1.x.c,.int .u64 g.1.x.d,.int .u64 g.1.y.a,.int .u64 g.1.y.b,.int .u64 g.1.y.c,.int .u64 g.1.y.d,.int .u64 g.1.w.a,.int .u64 g.1.w.b,.int .u64 g.1.w.c,.int .u64 g.1.w.d]]:=by rw [htkg,List.map_append,List.map_cons,List.map_nil,hgc]
     have hmin : min v (hitP L).length = v:=Nat.min_eq_left (by omega)
     have hvl : ((hitP L).take v).length = v:=by rw [List.length_take]; omega
     have hml : (((hitP L).take v).map cellsG).length = v:=by rw [List.length_map,hvl]
     have htk0 : List.take v (((hitP L).take v).map cellsG) = ((hitP L).take v).map cellsG:=List.take_of_length_le (Nat.le_of_eq hml)
     have hc1 : (v + 1) * 96 ≤ 140737488355328:=by omega
     have hc2 : v ≤ 9223372036854775806:=by omega
     have hqe : ∀ k,(∀ es,H k ≠ some (12,es)) → k ≠ iq:=fun k h e=>h _ (e ▸ hq)
     refine .up ?_
     refine .region ?_
     refine .k 5 ?_ (by simp (disch:=first|exact zd|fail) [List.take_succ_cons,List.take_zero,g3,Hp,g31,g32,g33,hq]; rfl)
     refine AOPS.opapp (by simp (disch:=first|exact zd|fail) [if_pos,wd_append,wd_take,wd_drop,List.nil_append,Hp,g3,hq,hvl,hml,htk0,hc1,hc2]; first | rfl | exact ⟨rfl,rfl⟩ | exact ⟨rfl,rfl,rfl⟩) (by simp) (by simp) ?_
     simp only [puts_some,hdrop]
     refine .e ?_ (by simp (disch:=first|exact zd|fail) [g3,Hp,g31,g32,g33,hq]; rfl)
     refine J15 _ _ ?_
     refine ⟨(mm + 1 + 1),by first|omega|(simp;omega),by first|omega|(simp;omega),hev.to (Nat.le_refl _) (by first|omega|(simp;omega)) (fun k h1 h2 h3=>by have h4:=hqe k h3; simp (disch:=omega) [h4]),hMM,?_,?_,?_,?_,?_,?_,?_,?_,?_,?_,?_,?_,?_,?_,?_,?_,?_,?_,rfl⟩ <;> first|(simp (disch:=omega) [g0,g2,g3,g4,g5,g31,g32,g33,Hr,Hp,Hl,hmt,hml,hvl,htk0,hmin,List.take_take];done)|omega|(simp;done)|(simp;omega)
   ·try simp only[dc]at h34
    have hvm0 : v = (hitP L).length:=by omega
    have hlenE:=EdV.len (P:=Tryz.prog) hev (t:=38) elT38
    refine .exit ?_
    refine hK9 _ _ ?_
    refine .sq fun K31 hK31=>?_
    refine .q ?_ (by simp (disch:=first|exact zd|fail) [g3,Hp,hlenE]; rfl)
    refine .block ?_
    
    refine .loop (fun N s MM=>∃ i : Nat,N = D.length - i ∧ i ≤ D.length ∧ (m1 ≤ s.nx) ∧ (PtV L s.heap m1 s.nx v pv) ∧ (EdV s.heap m1 s.nx ev D) ∧ s.env 0 = .isl (L.map Sg.cells) ∧ s.env 2 = .ptr nx 0 0 ∧ s.env 3 = .ptr ip 0 0 ∧ s.env 4 = .osl il 0 L.length ∧ s.env 5 = .raw (.map (some mp)) ∧ s.env 105 = .int .i64 (D.length : Int) ∧ s.env 106 = .int .i64 (i : Int) ∧ s.heap nx = some (2,[[.nsl,.nsl]]) ∧ nx < s.nx ∧ s.heap ip = some (2,[[pv,ev]]) ∧ ip < s.nx ∧ s.heap il = some (1,wd .i64 (lasL L v [])) ∧ il < s.nx ∧ s.nt = 121) (D.length) (by refine ⟨0,by omega,by omega,hmx,hpv,hev,?_,?_,?_,?_,?_,?_,?_,?_,?_,?_,?_,?_,?_,rfl⟩ <;> first|(simp (disch:=omega) [g0,g2,g3,g4,g5,g31,g32,g33,Hr,Hp,Hl];done)|omega|(simp;done)|(simp;omega)) ?_
    clear g0 g2 g3 g4 g5 g31 g32 g33 Hr xr Hp xp Hl xl hmx hpv hev
    rintro N ⟨e,H,mm,nt⟩ MM ⟨i,rfl,hi,hmx,hpv,hev,g0,g2,g3,g4,g5,g105,g106,Hr,xr,Hp,xp,Hl,xl,rfl⟩
    simp only [] at g0 g2 g3 g4 g5 g105 g106 Hr xr Hp xp Hl xl
    simp only [] at hmx hpv hev
    refine .q ?_ (by simp (disch:=first|exact zd|fail) [g105,g106]; rfl)
    refine .sq fun K34 hK34=>?_
    refine .c (fun h107=>?_) (fun h107=>?_)
    ·try simp only[dc]at h107
     have hi' : i < D.length:=by omega
     have hDl : D.length ≤ 67200:=by
       have h1:=gatF_len (evA L v)
       have h2:=evA_len L v
       have h3 : v * L.length ≤ 1680 * 40:=Nat.mul_le_mul (by omega) z1
       rw [← hD,List.length_map] at h1; omega
     obtain ⟨ix,rfl,hEN⟩:=hev.osl (fun e=>by rw [e] at hi'; simp at hi')
     obtain ⟨⟨⟨⟨pa,pb⟩,ps⟩,px⟩,hp⟩ : ∃ p,D[i]? = some p:=⟨_,List.getElem?_eq_getElem hi'⟩
     have hat : (D.map ecl)[i]? = some [.int .i64 pa,.int .i64 pb,.osl px 0 ps.length]:=by rw [List.getElem?_map,hp]; rfl
     have hae : ∀ h : i < (D.map ecl).length,(D.map ecl)[i] = [.int .i64 pa,.int .i64 pb,.osl px 0 ps.length]:=fun h=>by rw [List.getElem?_eq_getElem h] at hat; simpa using hat
     have htop:=hEN.top
     obtain ⟨f1,f2,f3,f4⟩:=hEN.at hp
     simp only [] at f1 f2 f3 f4
     have hgm : ((pa,pb),ps) ∈ gatF (evA L v):=by rw [← hD]; exact List.mem_map_of_mem (List.mem_of_getElem? hp)
     have hps:=gat_srt hgm
     have hpn : 0 < ps.length:=by
       have h1:=(gatF_ok (evA L v)).2.seg _ hgm
       have h2:=sgO_mem.1 (((gatF_ok (evA L v)).2.key (pa,pb)).1 (List.mem_map_of_mem hgm))
       rw [← h1] at h2
       exact List.length_pos_iff.2 h2
     have hpl2 : ps.length ≤ 67200:=by
       have h1:=gatF_seg hgm
       have h2:=evA_len L v
       have h3 : v * L.length ≤ 1680 * 40:=Nat.mul_le_mul (by omega) z1
       simp only [] at h1; omega
     refine .skip ?_
     refine hK34 _ _ ?_
     refine .sq fun K35 hK35=>?_
     refine .block ?_
     refine .q ?_ (by simp (disch:=first|exact zd|fail) [g106]; rfl)
     refine .up ?_
     refine .region ?_
     refine .k 6 ?_ (by simp (disch:=first|exact zd|fail) [List.take_succ_cons,List.take_zero,if_pos,g3,Hp,htop,hat,hae,hi',List.length_map]; rfl)
     refine .a (sortInt_ac ps ps.length px H mm rfl f4 hpn (by omega) hps) hb105 ?_ (ha:=by simp (disch:=first|exact zd|fail) [idf_Wd',if_pos,g3,Hp,htop,hat,hae,hi',List.length_map])
     rintro _ H2 nx2 ⟨rfl,rfl,hn2⟩
     try simp only [] at hn2
     have hpv' : PtV L H2 m1 nx2 v pv:=hpv.to (Nat.le_refl _) (by omega) (fun _ _ _ _ h=>h)
     have hev' : EdV H2 m1 nx2 (.osl ix 0 D.length) D:=.inr ⟨ix,fun e=>by rw [e] at hi'; simp at hi',rfl,hEN.mono (by omega) (fun _ _ _=>rfl)⟩
     refine .nil ?_
     refine hK35 _ _ ?_
     refine .up ?_
     refine .r ?_ (by simp (disch:=first|exact zd|fail) [g106]; rfl)
     refine ⟨D.length - (i + 1),by omega,i + 1,rfl,by omega,by first|omega|(simp;omega),hpv',hev',?_,?_,?_,?_,?_,?_,?_,?_,?_,?_,?_,?_,?_,rfl⟩ <;> first|(simp (disch:=omega) [g0,g2,g3,g4,g5,g105,g106,Hr,Hp,Hl];done)|omega|(simp;done)|(simp;omega)
    ·try simp only[dc]at h107
     
     refine .exit ?_
     refine hK31 _ _ ?_
     refine .sq fun K37 hK37=>?_
     have hvm : v = (hitP L).length:=hvm0
     have havp : avOne pv = true:=by rcases hpv with ⟨_,rfl⟩ | ⟨_,_,rfl,_⟩ <;> rfl
     have hDl : D.length ≤ 67200:=by
       have h1:=gatF_len (evA L v)
       have h2:=evA_len L v
       have h3 : v * L.length ≤ 1680 * 40:=Nat.mul_le_mul (by omega) z1
       rw [← hD,List.length_map] at h1; omega
     rcases hev with ⟨hD0,rfl⟩ | ⟨ix,hDn,rfl,hEN⟩
     ·refine .up ?_
      refine .region ?_
      refine .k 2 ?_ (by simp (disch:=first|exact zd|fail) [List.take_succ_cons,List.take_zero,g3,Hp]; rfl)
      refine .a (sortEdZ_ac H mm) hb106 ?_ (ha:=by simp (disch:=first|exact zd|fail) [idf_Wd',g3,Hp])
      rintro _ H2 nx2 ⟨rfl,rfl,rfl⟩
      refine .nil ?_
      refine hK37 _ _ ?_
      refine .q ?_ (by simp (disch:=first|exact zd|fail) [g2,g3,Hr,Hp,havp]; rfl)
      refine .ret ?_
      exact hK _ _ _ _ _ _ trivial (Fin.mk (by simp [aRes,aResL,aRes1,g2]; try rfl)) (⟨pv,.nsl,[],rfl,by rw [← hvm]; exact hpv.to (by omega) (by first|omega|(simp;done)|(simp;omega)) (fun k es h1 h2 h3=>by simp (disch:=omega) [h3]),.inl ⟨rfl,rfl⟩,by rw [← ed_plan (E:=[]) (by have h:=hD; rw [hD0,hvm] at h; rw [← h]; exact List.Perm.refl _) List.Pairwise.nil]; rfl⟩)
     ·have htop:=hEN.top
      refine .up ?_
      refine .region ?_
      refine .k 2 ?_ (by simp (disch:=first|exact zd|fail) [List.take_succ_cons,List.take_zero,g3,Hp]; rfl)
      refine .a (sortEd_ac D D.length ix H mm rfl htop (by omega)) hb106 ?_ (ha:=by simp (disch:=first|exact zd|fail) [idf_Wd',g3,Hp])
      rintro _ H2 nx2 ⟨rfl,hn2,D2,hpm,hsr,rfl⟩
      try simp only [] at hn2
      have hixr:=hEN.ixr
      have hE2 : EdN (hupd H ix (some (3,D2.map ecl))) m1 nx2 ix D2:=hEN.perm hpm (by simp) (fun k h1 h2 h3=>by simp [hupd,h3]) hn2
      have hl2 : D2.length = D.length:=hpm.length_eq
      refine .nil ?_
      refine hK37 _ _ ?_
      refine .q ?_ (by simp (disch:=first|exact zd|fail) [g2,g3,Hr,Hp,havp]; rfl)
      refine .ret ?_
      exact hK _ _ _ _ _ _ trivial (Fin.mk (by simp [aRes,aResL,aRes1,g2]; try rfl)) (⟨pv,(.osl ix 0 D.length),D2,rfl,by rw [← hvm]; exact hpv.to (by omega) (by first|omega|(simp;done)|(simp;omega)) (fun k es h1 h2 h3=>by have hne : k ≠ ix:=(fun e=>by rw [e,htop] at h3; simp at h3); simp (disch:=omega) [h3,hne]),.inr ⟨ix,(fun e=>hDn (List.length_eq_zero_iff.1 (by rw [← hl2,e]; rfl))),by rw [hl2],hE2.to (by omega) (by first|omega|(simp;done)|(simp;omega)) (fun k h1 h2 h3=>by simp (disch:=omega))⟩,ed_plan (by rw [← hvm,← hD]; exact hpm.map _) (by rw [List.pairwise_map]; exact hsr)⟩)
end

end Go.Proofs.YtjbbbkfdcegfmaaGreat

/- Walks: plan told for good; edges of a segment. -/
namespace Go.Proofs.YtjbbbkfdcegfmaaGreat
open Go Go.RowKit
set_option linter.unusedSimpArgs false
set_option linter.unusedVariables false
set_option maxRecDepth 100000
attribute [local simp] szT2 byT2 agT2 unT2 zoT2 szT3 byT3 agT3 unT3 zoT3 szT24 byT24 agT24 elT24 unT24 zoT24 szT27 byT27 agT27 elT27 unT27 zoT27 szT37 byT37 agT37 elT37 unT37 zoT37 szT38 byT38 agT38 elT38 unT38 zoT38 szT40 byT40 agT40 flT40 fdT40_0 fdT40_1 zoT40 szT76 byT76 agT76 elT76 unT76 zoT76 szT78 byT78 agT78 flT78 fdT78_0 fdT78_1 zoT78 szT81 byT81 agT81 flT81 fdT81_0 fdT81_1 fdT81_2 zoT81 szT85 byT85 agT85 flT85 fdT85_0 fdT85_1 zoT85 srT24 ixT24 lnT24 srT27 srT37 srT38 srT76

theorem nsl_isl {w : World} {β : Nat → Option Loc} {b : Nat → Bool} {v : Value} (h : VR w β b .nsl v) : VR w β b (.isl []) v:=by
  rw [show v = .slice none 0 0 from h]
  exact ⟨none,0,0,[],rfl,Nat.le_refl _,rfl,fun e vs he=>by simp at he⟩
theorem lv_cellsG (H : Heap) (k : Nat) (l : List GP) : (l.map cellsG).map (List.map (lv H k)) = l.map cellsG:=by
  rw [List.map_map]
  exact List.map_congr_left fun g _=>lvL_int fun x hx=>by
    simp only [cellsG,Pt.cells,List.mem_cons,List.not_mem_nil,or_false] at hx
    rcases hx with rfl | rfl | rfl | rfl | rfl | rfl | rfl | rfl | rfl | rfl | rfl | rfl <;> exact ⟨_,rfl⟩
theorem plan_fc (L : List Sg) (z1 : L.length ≤ 40) (z2 : ∀ s ∈ L,s.good = true) : FC Tryz.prog 63 [.isl (L.map Sg.cells)] (.agg [.isl ((hitP L).map cellsG),.isl ((edL L).map edC)]) :=
  FC.of_lv 4 (by simp [idfL,idf,idfLL_iff,Sg.cells]) (by
    simp only [idf,idfL,idfLL_iff,List.mem_map,and_true]
    constructor
    · rintro x ⟨g,_,rfl⟩; simp [cellsG,Pt.cells,idfL,idf]
    · rintro x ⟨e,_,rfl⟩; simp [edC,idfL,idf,idf_Wd']) (plan_ac L z1 z2) fun nx v H nx' ⟨pv,ev,D,e,hp,he,hD⟩ w β b u hu=>by
    subst e
    obtain ⟨vs,rfl,v1,r1,e1,h1,v2,r2,e2,h2,e3⟩:=hu
    subst e3
    refine ⟨vs,rfl,v1,_,e1,?_,v2,_,e2,?_,rfl⟩
    · rcases hp with ⟨h0,rfl⟩ | ⟨iq,_,rfl,hq,_⟩
      · rw [List.length_eq_zero_iff.1 h0]; exact nsl_isl h1
      · rw [List.take_length] at hq
        have e : YtjbbbkfdcegfmaaGreat.lv H 3 (.osl iq 0 (hitP L).length) = .isl ((hitP L).map cellsG):=by
          rw [YtjbbbkfdcegfmaaGreat.lv,hq]
          simp only []
          rw [if_pos (by simp),List.drop_zero,List.take_of_length_le (by simp),lv_cellsG]
        rwa [e] at h1
    · rcases he with ⟨rfl,rfl⟩ | ⟨ix,_,rfl,hE⟩
      · rw [← hD]; exact nsl_isl h2
      · rw [hE.lv 1] at h2
        rw [← hD,List.map_map]; exact h2
section
attribute [local simp] idf_numS cells_numS numS_fold idf_numI cells_numI numI_fold Sp.av Sp.cells Sg.av Sg.cells
end

end Go.Proofs.YtjbbbkfdcegfmaaGreat

/- Walks: FnExactEdgesOn: the law. -/
namespace Go.Proofs.YtjbbbkfdcegfmaaGreat
open Go Go.RowKit
set_option linter.unusedSimpArgs false
set_option linter.unusedVariables false
set_option maxRecDepth 100000
attribute [local simp] szT2 byT2 agT2 unT2 zoT2 szT3 byT3 agT3 unT3 zoT3 szT4 byT4 agT4 unT4 zoT4 szT24 byT24 agT24 elT24 unT24 zoT24 srT24 ixT24 lnT24

theorem hpb_of {L : List Sg} (hz : sgF L = 0) : (hitP L).length ≤ 1680:=by rw [hitP_len]; exact ded_b (sgF_zero hz).1 (Nat.le_refl _)
section
attribute [local simp] idf_numS cells_numS numS_fold idf_numI cells_numI numI_fold
end
end Go.Proofs.YtjbbbkfdcegfmaaGreat

/- Walks: halves of the plan: where they come from, which way they go. -/
namespace Go.Proofs.YtjbbbkfdcegfmaaGreat
open Go Go.RowKit
set_option linter.unusedSimpArgs false
set_option linter.unusedVariables false
set_option maxRecDepth 100000
attribute [local simp] szT2 byT2 agT2 unT2 zoT2 szT3 byT3 agT3 unT3 zoT3 szT24 byT24 agT24 elT24 unT24 zoT24 szT27 byT27 agT27 elT27 unT27 zoT27 szT37 byT37 agT37 elT37 unT37 zoT37 szT38 byT38 agT38 elT38 unT38 zoT38 szT40 byT40 agT40 flT40 fdT40_0 fdT40_1 zoT40 szT81 byT81 agT81 flT81 fdT81_0 fdT81_1 fdT81_2 zoT81 szT83 byT83 agT83 flT83 fdT83_0 fdT83_1 zoT83 szT85 byT85 agT85 flT85 fdT85_0 fdT85_1 zoT85 szT162 byT162 agT162 szT175 byT175 agT175 elT175 unT175 zoT175 srT24 ixT24 lnT24 srT27 srT37 srT38 srT175 ixT175 lnT175

theorem hmod2 (h : Nat) : (h : Int).tmod 2 = (h : Int) % 2:=by rw [Int.tmod_eq_emod_of_nonneg (by omega)]
theorem hdiv2 (h : Nat) : (h : Int).tdiv 2 = (h : Int) / 2:=by rw [Int.tdiv_eq_ediv_of_nonneg (by omega)]
theorem beq0 (h : Nat) : ((h : Int) % 2 == 0) = decide (h % 2 = 0):=by rw [Bool.eq_iff_iff]; simp; omega
theorem beq1 (h : Nat) : ((h : Int) % 2 == 1) = decide (h % 2 = 1):=by rw [Bool.eq_iff_iff]; simp; omega
theorem edC_idf (L : List Sg) : idf (.isl ((edL L).map edC)):=by
  simp only [idf,idfLL_iff,List.mem_map]
  rintro x ⟨e,_,rfl⟩; simp [edC,idfL,idf,idf_Wd']
theorem ptG_idf (L : List Sg) : idf (.isl ((hitP L).map cellsG)):=by
  simp only [idf,idfLL_iff,List.mem_map]
  rintro x ⟨g,_,rfl⟩; simp [cellsG,Pt.cells,idfL,idf]
theorem ptS_idf (L : List Sg) : idf (.isl ((hitP L).map cellS)):=by
  simp only [idf,idfLL_iff,List.mem_map]
  rintro x ⟨g,_,rfl⟩; simp [cellS,l3C,idfL,idf,idf_Wd']
theorem edC_idfL (L : List Sg) : idfLL ((edL L).map edC):=edC_idf L
theorem ptG_idfL (L : List Sg) : idfLL ((hitP L).map cellsG):=ptG_idf L
theorem ptS_idfL (L : List Sg) : idfLL ((hitP L).map cellS):=ptS_idf L
theorem sg_idf (L : List Sg) : idf (.isl (L.map Sg.cells)):=by
  simp only [idf,idfLL_iff,List.mem_map]
  rintro x ⟨s,_,rfl⟩; simp [Sg.cells,idfL,idf]
theorem sg_idfL (L : List Sg) : idfLL (L.map Sg.cells):=sg_idf L

theorem lfW_b (x y : Int) : 0 ≤ lfW x y ∧ lfW x y ≤ 1:=by unfold lfW; split <;> omega
theorem mulWy {p q : Int} (h1 : -2000000 ≤ p) (h2 : p ≤ 2000000) (h3 : -2000000 ≤ q) (h4 : q ≤ 2000000) : -4000000000000 ≤ p * q ∧ p * q ≤ 4000000000000:=by
  have a : (p * q).natAbs ≤ 2000000 * 2000000:=by rw [Int.natAbs_mul]; exact Nat.mul_le_mul (by omega) (by omega)
  omega
theorem hw_b {L : List Sg} (z2 : ∀ s ∈ L,s.good = true) {h : Nat} (hh : h < 2 * (edL L).length) : (-2000000 ≤ hwx L (edL L) h ∧ hwx L (edL L) h ≤ 2000000) ∧ -2000000 ≤ hwy L (edL L) h ∧ hwy L (edL L) h ≤ 2000000 ∧ True ∧ True:=by
  obtain ⟨i0,_,hs2,hs3,_⟩:=hf_seg hh
  have gs:=z2 _ (gq_mem hs2)
  have a:=Sp.b (good_a gs)
  have b:=Sp.b (good_b gs)
  unfold hwx hwy
  rw [hs3]
  refine ⟨⟨?_,?_⟩,?_,?_,trivial,trivial⟩ <;> split <;> omega

set_option maxHeartbeats 1000000 in
theorem fromI_fc (L : List Sg) (h : Nat) (hh : h < 2 * (edL L).length) (hb : (edL L).length ≤ 67200) : FC Tryz.prog 114 [.agg [.isl ((hitP L).map cellsG),.isl ((edL L).map edC)],.int .i64 (h : Int)] (.int .i64 (hfr (edL L) h)):=by
 have hi' : h / 2 < (edL L).length:=by omega
 have hat:=edC_at hi'
 have hae : ∀ q : h / 2 < ((edL L).map edC).length,((edL L).map edC)[h / 2] = [.int .i64 (edq (edL L) (h / 2)).1.1,.int .i64 (edq (edL L) (h / 2)).1.2,Wd .i64 (edq (edL L) (h / 2)).2]:=fun q=>by rw [List.getElem?_eq_getElem q] at hat; simpa using hat
 have hml : ((edL L).map edC).length = (edL L).length:=List.length_map _
 have hq0 : ¬ (h : Int) / 2 < 0:=by omega
 have tn : ((h : Int) / 2).toNat = h / 2:=by omega
 have qd:=hdiv2 h
 have qm:=hmod2 h
 refine .b Tryz.func114 22 (fun nx K hK=>?_) (hi:=by simp only [idfL,idf,edC_idfL,ptG_idfL,ptS_idfL,sg_idfL,and_self,and_true,true_and]; try trivial)
 refine .q ?_
 refine .sq fun K2 hK2=>?_
 refine .q ?_ (by simp (disch:=first|exact zd|fail) [qm]; rfl)
 refine .c (t:=decide (h % 2 = 0)) (fun h7=>?_) (fun h7=>?_) (by simp (disch:=first|exact zd|fail) [beq0])
 ·try simp only[dc]at h7
  refine .q ?_ (by simp (disch:=first|exact zd|fail) [if_pos,hat,hae,hi',hml,tn,hq0,qd,qm]; rfl)
  refine .ret ?_
  exact hK _ _ _ _ trivial ((Fin.m).cast (by unfold hfr; rw [if_pos h7]))
 ·try simp only[dc]at h7
  refine .skip ?_
  refine hK2 _ ?_
  refine .q ?_ (by simp (disch:=first|exact zd|fail) [if_pos,hat,hae,hi',hml,tn,hq0,qd,qm]; rfl)
  refine .ret ?_
  exact hK _ _ _ _ trivial ((Fin.m).cast (by unfold hfr; rw [if_neg h7]))
section
attribute [local simp] idf_numS cells_numS numS_fold idf_numI cells_numI numI_fold
set_option maxHeartbeats 2000000 in
theorem way_fc (L : List Sg) (h : Nat) (hh : h < 2 * (edL L).length) (hb : (edL L).length ≤ 67200) (z2 : ∀ s ∈ L,s.good = true) : FC Tryz.prog 118 [.agg [.isl ((hitP L).map cellsG),.isl ((edL L).map edC)],.isl (L.map Sg.cells),.int .i64 (h : Int)] (.agg [.int .i64 (hwx L (edL L) h),.int .i64 (hwy L (edL L) h)]):=by
 have hi' : h / 2 < (edL L).length:=by omega
 have hat:=edC_at hi'
 have hae : ∀ q : h / 2 < ((edL L).map edC).length,((edL L).map edC)[h / 2] = [.int .i64 (edq (edL L) (h / 2)).1.1,.int .i64 (edq (edL L) (h / 2)).1.2,Wd .i64 (edq (edL L) (h / 2)).2]:=fun q=>by rw [List.getElem?_eq_getElem q] at hat; simpa using hat
 have hml : ((edL L).map edC).length = (edL L).length:=List.length_map _
 have hq0 : ¬ (h : Int) / 2 < 0:=by omega
 have tn : ((h : Int) / 2).toNat = h / 2:=by omega
 have qd:=hdiv2 h
 have qm:=hmod2 h
 obtain ⟨i0,hs1,hs2,hs3,hs4⟩:=hf_seg hh
 have gs:=z2 _ (gq_mem hs2)
 obtain ⟨s0,hs0⟩ : ∃ s,s = gq L i0:=⟨_,rfl⟩
 rw [← hs0] at gs hs3
 have hatS : (L.map Sg.cells)[i0]? = some (Sg.cells s0):=by rw [List.getElem?_map,gq_get hs2,hs0]; rfl
 have haeS : ∀ q : i0 < (L.map Sg.cells).length,(L.map Sg.cells)[i0] = Sg.cells s0:=fun q=>by rw [List.getElem?_eq_getElem q] at hatS; simpa using hatS
 simp only [Sg.cells] at hatS haeS
 have hmS : (L.map Sg.cells).length = L.length:=List.length_map _
 obtain ⟨⟨sa1,sa2,sa3,sa4⟩,⟨sb1,sb2,sb3,sb4⟩⟩:=And.intro (Sp.b (good_a gs)) (Sp.b (good_b gs))
 refine .b Tryz.func118 47 (fun nx K hK=>?_) (hi:=by simp only [idfL,idf,edC_idfL,ptG_idfL,ptS_idfL,sg_idfL,and_self,and_true,true_and]; try trivial)
 refine .q ?_
 refine .q ?_ (by simp (disch:=first|exact zd|fail) [if_pos,hat,hae,hi',hml,tn,hq0,qd,qm,hs1,hs2,hs4,hatS,haeS,hmS]; rfl)
 refine .q ?_
 refine .sq fun K4 hK4=>?_
 refine .q ?_ (by simp (disch:=first|exact zd|fail) [qm]; rfl)
 refine .c (t:=decide (h % 2 = 1)) (fun h38=>?_) (fun h38=>?_) (by simp (disch:=first|exact zd|fail) [beq1])
 ·try simp only[dc]at h38
  
  refine .r ?_
  refine hK4 _ ?_
  refine .q ?_
  refine .ret ?_
  exact hK _ _ _ _ trivial ((Fin.m).cast (by unfold hwx hwy; rw [hs3]; simp only [h38,if_true,if_false]))
 ·try simp only[dc]at h38
  refine .skip ?_
  refine hK4 _ ?_
  refine .q ?_
  refine .ret ?_
  exact hK _ _ _ _ trivial ((Fin.m).cast (by unfold hwx hwy; rw [hs3]; simp only [h38,if_true,if_false]))
set_option maxHeartbeats 1000000 in
theorem left_fc (x y : Int) : FC Tryz.prog 115 [.agg [.int .i64 x,.int .i64 y]] (.int .i64 (lfW x y)):=by
 refine .b Tryz.func115 16 (fun nx K hK=>?_)
 refine .q ?_
 refine .sq fun K2 hK2=>?_
 refine .sq fun K3 hK3=>?_
 by_cases q1 : x < 0
 ·have d1 : decide (x < 0) = true:=decide_eq_true q1
  refine .r ?_ (by simp (disch:=first|exact zd|fail) [d1]; rfl)
  refine hK3 _ ?_
  refine .c (fun h15=>?_) (fun h15=>?_)
  ·try simp only[dc]at h15
   refine .q ?_
   refine .ret ?_
   exact hK _ _ _ _ trivial ((Fin.m).cast (by unfold lfW; rw [if_pos (Or.inl q1)]))
  ·simp at h15
 ·have d1 : decide (x < 0) = false:=decide_eq_false q1
  by_cases q2 : x = 0
  ·have d2 : (x == 0) = true:=by simp [q2]
   refine .r ?_ (by simp (disch:=first|exact zd|fail) [d1,d2]; rfl)
   refine hK3 _ ?_
   refine .c (t:=decide (y < 0)) (fun h15=>?_) (fun h15=>?_)
   ·try simp only[dc]at h15
    refine .q ?_
    refine .ret ?_
    exact hK _ _ _ _ trivial ((Fin.m).cast (by unfold lfW; rw [if_pos (Or.inr ⟨q2,h15⟩)]))
   ·try simp only[dc]at h15
    refine .skip ?_
    refine hK2 _ ?_
    refine .q ?_
    refine .ret ?_
    exact hK _ _ _ _ trivial ((Fin.m).cast (by unfold lfW; rw [if_neg (by omega)]))
  ·have d2 : (x == 0) = false:=by simp [q2]
   refine .r ?_ (by simp (disch:=first|exact zd|fail) [d1,d2]; rfl)
   refine hK3 _ ?_
   refine .c (t:=false) (fun h15=>?_) (fun h15=>?_)
   ·simp at h15
   ·try simp only[dc]at h15
    refine .skip ?_
    refine hK2 _ ?_
    refine .q ?_
    refine .ret ?_
    exact hK _ _ _ _ trivial ((Fin.m).cast (by unfold lfW; rw [if_neg (by omega)]))
set_option maxHeartbeats 4000000 in
theorem cmpA_fc (L : List Sg) (a b : Nat) (ha : a < 2 * (edL L).length) (hb2 : b < 2 * (edL L).length) (hb : (edL L).length ≤ 67200) (z2 : ∀ s ∈ L,s.good = true) : FC Tryz.prog 117 [.int .i64 (a : Int),.int .i64 (b : Int),.ip [.isl ((hitP L).map cellsG),.isl ((edL L).map edC)],.ip [.isl (L.map Sg.cells)],.ip [.fn 115 []]] (.int .i64 (cmW (hw L a) (hw L b))):=by
 obtain ⟨⟨p1,p2⟩,p3,p4,_⟩:=hw_b z2 ha
 obtain ⟨⟨q1,q2⟩,q3,q4,_⟩:=hw_b z2 hb2
 have fa:=way_fc L a ha hb z2
 have fb:=way_fc L b hb2 hb z2
 have fR : cmW (hw L a) (hw L b) = orL [lfW (hwx L (edL L) a) (hwy L (edL L) a) - lfW (hwx L (edL L) b) (hwy L (edL L) b),-sg3 (hwx L (edL L) a * hwy L (edL L) b - hwy L (edL L) a * hwx L (edL L) b)]:=rfl
 rw [fR]
 generalize hwx L (edL L) a = ax at *
 generalize hwy L (edL L) a = ay at *
 generalize hwx L (edL L) b = bx at *
 generalize hwy L (edL L) b = bY at *
 have l1:=lfW_b ax ay
 have l2:=lfW_b bx bY
 obtain ⟨m1,m2⟩:=mulWy (p:=ax) (q:=bY) (by omega) (by omega) (by omega) (by omega)
 obtain ⟨m3,m4⟩:=mulWy (p:=ay) (q:=bx) (by omega) (by omega) (by omega) (by omega)
 have fl1:=left_fc ax ay
 have fl2:=left_fc bx bY
 have s3:=sg3_b (ax * bY - ay * bx)
 refine .b Tryz.func117 40 (fun nx K hK=>?_) (hi:=by simp only [idfL,idf,edC_idfL,ptG_idfL,ptS_idfL,sg_idfL,and_self,and_true,true_and]; try trivial)
 refine .q ?_
 refine .sq fun K2 hK2=>?_
 refine .old fun hold=>?_
 refine .d 10 ?_
 refine .k 3 (fun fs3 hfs3=>?_)
 refine .f fa hb118 ?_
 refine DP.runF1q (by simp (disch:=first|exact zd|fail); rfl) fun fq4 hfq4=>?_
 simp [qids,asksB,Op.operands,topId] at hfq4
 simp only [updo]
 refine DP.runF1q (by simp (disch:=first|exact zd|fail); rfl) fun fq5 hfq5=>?_
 simp [qids,asksB,Op.operands,topId] at hfq5
 simp only [updo]
 refine DP.runF1q (by simp (disch:=first|exact zd|fail); rfl) fun fq6 hfq6=>?_
 simp [qids,asksB,Op.operands,topId] at hfq6
 simp only [updo]
 refine .f fb hb118 ?_
 refine .k 2 (fun fs7 hfs7=>?_)
 refine DQ.sto1 (m:=10) [4,5,6] _ (by simp (disch:=first|exact zd|fail); rfl) rfl (by simp only[ln,hfs3,hfs7];omega) (by kernel_rfl) (by intro k f hk hex; simp only [List.mem_cons,List.not_mem_nil,or_false] at hex; rcases hex with rfl | rfl | rfl <;> (simp [List.getElem?_append,hfs3,hfs7] at hk; subst hk; refine ⟨?_,by first | omega | (simp; done) | (simp; omega)⟩; simp [qids,asksB,Op.operands,Call.operands,topId,numS,numI,Wd,hfq4,hfq5,hfq6]; try omega)) ?_
 try simp only []
 refine DQ.sto1 (m:=10) [] _ (by simp (disch:=first|exact zd|fail); rfl) rfl (by simp only[ln,hfs3,hfs7];omega) (by kernel_rfl) (by intro k f hk hex; simp only [List.not_mem_nil] at hex) ?_
 try simp only []
 refine hK2 _ ?_
 refine .sq fun K8 hK8=>?_
 refine .d 22 ?_
 refine .k 2 (fun fs9 hfs9=>?_)
 refine DP.fcall (fl1) rfl rfl (by simp; rfl) hb115 (by simp (disch:=first|exact zd|fail) [idf_Wd']) (by simp (disch:=first|exact zd|fail)) (by simp) ?_
 simp only [updo]
 refine .k 2 (fun fs10 hfs10=>?_)
 refine DP.fcall (fl2) rfl rfl (by simp; rfl) hb115 (by simp (disch:=first|exact zd|fail) [idf_Wd']) (by simp (disch:=first|exact zd|fail)) (by simp) ?_
 simp only [updo]
 refine .k 12 (fun fs11 hfs11=>?_)
 refine .f (signI_fc (ax * bY - ay * bx)) hb119 ?_
 refine .k 2 (fun fs12 hfs12=>?_)
 refine .f (show FC Tryz.prog 108 [.isl (wd .i64 [lfW ax ay - lfW bx bY,-sg3 (ax * bY - ay * bx)])] (.int .i64 (orL [lfW ax ay - lfW bx bY,-sg3 (ax * bY - ay * bx)])) from cmpOr_fc [lfW ax ay - lfW bx bY,-sg3 (ax * bY - ay * bx)] (by simp)) hb108 ?_
 refine .r 22 (by simp only[ln,hfs9,hfs10,hfs11,hfs12];omega) ?_
 refine hK8 _ ?_
 refine .ret ?_
 exact hK _ _ _ _ trivial (Fin.m)
end

end Go.Proofs.YtjbbbkfdcegfmaaGreat
