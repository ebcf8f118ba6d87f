/- Own blocks that are given up: what spoke of them speaks of what no more turns. Bodies of functions; calls as operations. -/
import Derived.Test.YtjbbbkfdcegfmaaGreatG0B

namespace Go.Proofs.YtjbbbkfdcegfmaaGreat
open Go Go.RowKit

mutual
def fz (id : Nat) (es : List (List AV)) : AV → AV
  | .osl i st n=>if i = id then (if st + n ≤ es.length then .isl ((es.drop st).take n) else .junk) else .osl i st n
  | .ptr i e o=>if i = id then (match es[e]? with | some cs=>.ip (cs.drop o) | none=>.junk) else .ptr i e o
  | .ip cs=>.ip (fzL id es cs)
  | .isl l=>.isl (fzLL id es l)
  | .agg cs=>.agg (fzL id es cs)
  | .tup cs=>.tup (fzL id es cs)
  | .fn f cs=>.fn f (fzL id es cs)
  | .bool c=>.bool c
  | .int k n=>.int k n
  | .str s=>.str s
  | .nil=>.nil
  | .nsl=>.nsl
  | .raw v=>.raw v
  | .junk=>.junk
def fzL (id : Nat) (es : List (List AV)) : List AV → List AV
  | []=>[]
  | x :: r=>fz id es x :: fzL id es r
def fzLL (id : Nat) (es : List (List AV)) : List (List AV) → List (List AV)
  | []=>[]
  | x :: r=>fzL id es x :: fzLL id es r
end

theorem fzLL_length (id : Nat) (es : List (List AV)) : ∀ l,(fzLL id es l).length = l.length
  | []=>rfl
  | _ :: r=>by simp [fzLL,fzLL_length id es r]

section
variable {w0 w : World} {β : Nat → Option Loc} {b : Nat → Bool} {H : Heap} {id z : Nat} {es : List (List AV)}

theorem Rds.drop {a : Option Addr} {vss : List (List Value)} {g o : Nat} (h : Rds w β (some ⟨g,o,none⟩) z vss) (st n : Nat) : Rds w β (some ⟨g,o + st * z,none⟩) z ((vss.drop st).take n):=by
  intro e vs he
  rw [List.getElem?_take] at he
  split at he
  · rw [List.getElem?_drop] at he
    obtain ⟨h1,h2⟩:=h _ vs he
    refine ⟨h1,fun j u hu=>?_⟩
    obtain ⟨g',o',e1,e2,e3⟩:=h2 j u hu
    simp only [Option.some.injEq,Addr.mk.injEq,and_true] at e1
    obtain ⟨rfl,rfl⟩:=e1
    refine ⟨g,o + st * z,rfl,?_,e3⟩
    rw [← e2]; congr 2; rw [Nat.add_mul]; omega
  · simp at he

mutual
theorem fz_ok (h : HR w0 w β b H) {l : Loc} (hl : β id = some l) (hb : BR w β b l z es) : ∀ (x : AV) (v : Value),VR w β b x v → VR w (bupd β id none) b (fz id es x) v
  | .bool _,_,k=>k
  | .int _ _,_,k=>k
  | .str _,_,k=>k
  | .nil,_,k=>k
  | .nsl,_,k=>k
  | .raw _,_,k=>k
  | .junk,_,_=>trivial
  | .ip cells,_,⟨g,o,vs,hv,hl',hr⟩=>⟨g,o,vs,hv,fzL_ok h hl hb cells vs hl',fun j u hu=>(hr j u hu).mon (Mon.drop h id)⟩
  | .isl l',_,⟨a,cap,z',vss,hv,hc,hl',hr⟩=>⟨a,cap,z',vss,by rw [fzLL_length]; exact hv,by rw [fzLL_length]; exact hc,fzLL_ok h hl hb l' vss hl',hr.mon (Mon.drop h id)⟩
  | .agg cells,_,⟨vs,hv,hl'⟩=>⟨vs,hv,fzL_ok h hl hb cells _ hl'⟩
  | .tup xs,_,⟨vs,hv,hl'⟩=>⟨vs,hv,fzL_ok h hl hb xs _ hl'⟩
  | .fn _ caps,_,⟨vs,hv,hl'⟩=>⟨vs,hv,fzL_ok h hl hb caps _ hl'⟩
  | .ptr i e o,v,hx=>by
    unfold fz
    split
    · rename_i hi
      subst hi
      have hv:=hx.2.2 l hl
      obtain ⟨hz,c,elem,hg,vss,hvl,hcell⟩:=hb
      split
      · rename_i cs hcs
        obtain ⟨vs,hvs,hrow⟩:=VRLL.get _ _ e cs hvl hcs
        have hR:=Rds.of_block h hl hg hcell
        obtain ⟨h1,h2⟩:=hR e vs hvs
        refine ⟨l.g,l.o + e * l.z + o,vs.drop o,hv,VRL.drop o _ _ (VRL.mon (Mon.drop h i) _ _ hrow),fun j u hu=>?_⟩
        obtain ⟨g',o',e1,e2,e3⟩:=h2 (o + j) u (by simpa using hu)
        simp only [Option.some.injEq,Addr.mk.injEq,and_true] at e1
        obtain ⟨rfl,rfl⟩:=e1
        exact ⟨l.g,_,rfl,by rw [← e2,hz]; congr 2; omega,e3⟩
      · trivial
    · rename_i hi
      exact VR.mon (Mon.drop h id) (.ptr i e o) v hx
  | .osl i st n,v,hx=>by
    unfold fz
    split
    · rename_i hi
      subst hi
      split
      · rename_i hle
        obtain ⟨_,_,hx⟩:=hx
        obtain ⟨a,cap,hv,hnc,hor⟩:=hx l hl
        obtain ⟨hz,c,elem,hg,vss,hvl,hcell⟩:=hb
        have hR:=Rds.of_block h hl hg hcell
        have hlen : ((es.drop st).take n).length = n:=by simp; omega
        refine ⟨a,cap,z,(vss.drop st).take n,by rw [hlen]; exact hv,by rw [hlen]; exact hnc,VRLL.mon (Mon.drop h i) _ _ (VRLL.take n _ _ (VRLL.drop st _ _ hvl)),?_⟩
        rcases hor with h0 | ⟨ha,_⟩
        · intro e vs he
          have : n = 0:=by omega
          subst this
          simp at he
        · rw [ha,hz]; exact Rds.drop (a:=a) hR st n
      · trivial
    · exact VR.mon (Mon.drop h id) (.osl i st n) v hx
theorem fzL_ok (h : HR w0 w β b H) {l : Loc} (hl : β id = some l) (hb : BR w β b l z es) : ∀ (xs : List AV) (vs : List Value),VRL w β b xs vs → VRL w (bupd β id none) b (fzL id es xs) vs
  | [],_,k=>k
  | c :: cs,_,⟨v,r,e,hv,hr⟩=>⟨v,r,e,fz_ok h hl hb c v hv,fzL_ok h hl hb cs r hr⟩
theorem fzLL_ok (h : HR w0 w β b H) {l : Loc} (hl : β id = some l) (hb : BR w β b l z es) : ∀ (xs : List (List AV)) (vs : List (List Value)),VRLL w β b xs vs → VRLL w (bupd β id none) b (fzLL id es xs) vs
  | [],_,k=>k
  | c :: cs,_,⟨v,r,e,hv,hr⟩=>⟨v,r,e,fzL_ok h hl hb c v hv,fzLL_ok h hl hb cs r hr⟩
end

/-- A block is given up; other blocks' cells may speak of what it held. -/
theorem HR.freeze (h : HR w0 w β b H) (hH : H id = some (z,es)) {H' : Heap} (h0 : H' id = none)
    (hH' : ∀ i,i ≠ id → H' i = H i ∨ ∃ z' es',H i = some (z',es') ∧ H' i = some (z',fzLL id es es')) : HR w0 w (bupd β id none) b H':=by
  obtain ⟨l,hl,hb⟩:=h.blk id z es hH
  refine ⟨h.below,?_,?_,?_⟩
  · intro i z' es' he
    have hi : i ≠ id:=by intro e; subst e; rw [h0] at he; simp at he
    rcases hH' i hi with e | ⟨z2,es2,e1,e2⟩
    · rw [e] at he
      obtain ⟨l',hl',hb'⟩:=h.blk i z' es' he
      exact ⟨l',by simp [bupd,hi,hl'],hb'.mon (Mon.drop h id) rfl⟩
    · rw [e2] at he
      simp only [Option.some.injEq,Prod.mk.injEq] at he
      obtain ⟨rfl,rfl⟩:=he
      obtain ⟨l',hl',hz,c,elem,hg,vss,hv,hc⟩:=h.blk i z2 es2 e1
      exact ⟨l',by simp [bupd,hi,hl'],hz,c,elem,hg,vss,fzLL_ok h hl hb _ _ hv,hc⟩
  · intro i l' hl'
    unfold bupd at hl'
    split at hl'
    · simp at hl'
    · rename_i hi
      obtain ⟨h1,h2⟩:=h.dom i l' hl'
      refine ⟨fun hn=>h1 ?_,h2⟩
      rcases hH' i hi with e | ⟨z2,es2,e1,e2⟩
      · rwa [e] at hn
      · rw [e1]; simp
  · intro i j l1 l2 hl1 hl2 hg
    unfold bupd at hl1 hl2
    split at hl1
    · simp at hl1
    · split at hl2
      · simp at hl2
      · exact h.inj i j l1 l2 hl1 hl2 hg

theorem KeepF.drop (h : HR w0 w β b H) (hH : H id ≠ none) : KeepF w0 β (bupd β id none):=by
  intro i l hl hg
  unfold bupd
  rw [if_neg (by intro e; subst e; have:=(h.dom _ l hl).1 hH; omega)]; exact hl

def brestr (H : Heap) (p : Nat → Bool) (β : Nat → Option Loc) : Nat → Option Loc:=fun i=>if p i = true ∨ H i = none then β i else none
def hrestr (p : Nat → Bool) (H : Heap) : Heap:=fun i=>if p i = true then H i else none

theorem Mon.restr (H : Heap) (p : Nat → Bool) : Mon w β b w (brestr H p β) b :=
  ⟨Nat.le_refl _,fun g _ hn=>⟨rfl,fun i l hl=>by
      unfold brestr at hl
      split at hl
      · exact hn i l hl
      · simp at hl⟩,fun _ _ h=>h,fun _ h=>h,fun i l _ hl=>by
      unfold brestr at hl
      split at hl
      · exact hl
      · simp at hl⟩

theorem HR.restr (h : HR w0 w β b H) (p : Nat → Bool) : HR w0 w (brestr H p β) b (hrestr p H):=by
  refine ⟨h.below,?_,?_,?_⟩
  · intro i z es he
    unfold hrestr at he
    split at he
    · rename_i hi
      obtain ⟨l,hl,hb⟩:=h.blk i z es he
      exact ⟨l,by simp [brestr,hi,hl],hb.mon (Mon.restr H p) rfl⟩
    · simp at he
  · intro i l hl
    unfold brestr at hl
    split at hl
    · rename_i hi
      obtain ⟨h1,h2⟩:=h.dom i l hl
      exact ⟨fun hn=>h1 (by intro e; apply hn; unfold hrestr; split <;> simp [e]),h2⟩
    · simp at hl
  · intro i j l l' hl hl' hg
    unfold brestr at hl hl'
    split at hl
    · split at hl'
      · exact h.inj i j l l' hl hl' hg
      · simp at hl'
    · simp at hl
end

theorem KeepF.restr {w0 w : World} {β : Nat → Option Loc} {b : Nat → Bool} {H : Heap} (h : HR w0 w β b H) (p : Nat → Bool) : KeepF w0 β (brestr H p β):=by
  intro i l hl hg
  unfold brestr
  rw [if_pos]
  · exact hl
  · right
    cases hh : H i with
    | none=>rfl
    | some q=>have:=(h.dom i l hl).1 (by rw [hh]; simp); omega

/-- At the end of a body: what is handed back, behind whatever was given up. -/
def Fin (P : Program) (fn : Func) (s : St) (r : AV) (H' : Heap) (nx' : Nat) : Prop :=
  ∀ (w0 w : World) (β : Nat → Option Loc) (a : Act),SR w0 w β s a → ∃ v β',(results fn a.tmps).run P w = .ok v w ∧ HR w0 w β' (bornB nx') H' ∧ VR w β' (bornB nx') r v ∧ Mon w β (bornB s.nx) w β' (bornB nx') ∧ KeepF w0 β β'

section
variable {P : Program} {fn : Func} {s : St} {r : AV} {H : Heap} {nx : Nat}
theorem Fin.mk (h : aRes P s fn.results.toList = some r) : Fin P fn s r s.heap s.nx:=by
  intro w0 w β a hs
  obtain ⟨v,hv,hr⟩:=aRes_ok hs h
  exact ⟨v,β,hv,hs.hr,hr,Mon.refl _ _ _,KeepF.refl _ _⟩
theorem Fin.freeze (h : Fin P fn s r H nx) {id z : Nat} {es : List (List AV)} (hH : H id = some (z,es)) : Fin P fn s (fz id es r) (hupd H id none) nx:=by
  intro w0 w β a hs
  obtain ⟨v,β',hv,hh,hr,hm,hk⟩:=h w0 w β a hs
  obtain ⟨l,hl,hb⟩:=hh.blk id z es hH
  exact ⟨v,bupd β' id none,hv,HR.freeze hh hH (by simp [hupd]) (fun i hi=>.inl (by simp [hupd,hi])),fz_ok hh hl hb _ _ hr,hm.trans (Mon.drop hh id),hk.trans (KeepF.drop hh (by rw [hH]; simp))⟩
theorem Fin.restr (h : Fin P fn s r H nx) (p : Nat → Bool) : Fin P fn s r (hrestr p H) nx:=by
  intro w0 w β a hs
  obtain ⟨v,β',hv,hh,hr,hm,hk⟩:=h w0 w β a hs
  exact ⟨v,brestr H p β',hv,hh.restr p,VR.mon (Mon.restr H p) _ _ hr,hm.trans (Mon.restr H p),hk.trans (KeepF.restr hh p)⟩
theorem Fin.weak (h : Fin P fn s r H nx) {r' : AV} (hw : ∀ w β b v,VR w β b r v → VR w β b r' v) : Fin P fn s r' H nx:=by
  intro w0 w β a hs
  obtain ⟨v,β',hv,hh,hr,hm,hk⟩:=h w0 w β a hs
  exact ⟨v,β',hv,hh,hw _ _ _ _ hr,hm,hk⟩
end

/-- Is it the end of a body? -/
def isEnd : Exit → Prop
  | .normal=>True
  | .ret=>True
  | _=>False

section
variable {P : Program} {f : FuncId} {fn : Func} {c : Code} {args : List AV}

theorem lst_ok {w : World} {β : Nat → Option Loc} {b : Nat → Bool} : ∀ {l : List AV} {vs : List Value} {n : Nat},VRL w β b l vs → ∀ t,VR w β b (lst l t) ((vs.toArray ++ Array.replicate n undef).getD t undef):=by
  intro l vs n h t
  have hl:=VRL.length _ _ h
  unfold lst
  cases hx : l[t]? with
  | none=>trivial
  | some x =>
    obtain ⟨v,hv,hr⟩:=VRL.get _ _ t x h hx
    have : (vs.toArray ++ Array.replicate n undef).getD t undef = v:=by
      have hlt : t < vs.length:=by
        rcases Nat.lt_or_ge t vs.length with h' | h'
        · exact h'
        · rw [List.getElem?_eq_none h'] at hv; simp at hv
      rw [Array.getD_eq_getD_getElem?,Array.getElem?_append_left (by simpa using hlt)]
      simp [hv]
    rw [this]; exact hr

theorem FC.of_body (hf : P.funcs[f]? = some fn) (hb : fn.body = some c) {r : AV} (hi : idfL args) (hr : idf r)
    (h : ∀ nx,AWP P c (fun e s=>isEnd e ∧ ∃ H' nx',Fin P fn s r H' nx') { env:=lst args,heap:=fun _=>none,nx:=nx,nt:=args.length + (fn.ntmps - args.length) }) : FC P f args r:=by
  intro w β b N vs h1 h2 h3
  have hl:=VRL.length _ _ h3
  have h3':=VRL.idf (β':=β) (b':=bornB N) (fun _ h=>h) _ _ hi h3
  refine calls_of_wp hf hb (h N w w β _ _ ⟨⟨Below.refl _ _,fun id z es he=>by simp at he,fun id l hl=>⟨fun hn=>absurd rfl hn,(h1 id l hl).1,by simp [bornB,(h1 id l hl).2]⟩,h2⟩,rfl,by simp [hl],fun t=>lst_ok h3' t⟩ ?_)
  rintro e w' β' a' s' ⟨he,H',nx',hfin⟩ hs' hm
  obtain ⟨v,β2,hv,hh,hvr,hm2,hk2⟩:=hfin _ _ _ _ hs'
  have hn : ∀ g,notown β2 g → notown β g:=fun g hg id l hl hgg=>hg id l ((hm.2.trans hk2) id l hl (h1 id l hl).1) hgg
  cases e <;> simp only [isEnd] at he <;> exact ⟨hs'.defers,v,hv,v,rfl,fun b'=>VR.idf hn _ _ hr hvr,hh.below⟩
end
end Go.Proofs.YtjbbbkfdcegfmaaGreat
