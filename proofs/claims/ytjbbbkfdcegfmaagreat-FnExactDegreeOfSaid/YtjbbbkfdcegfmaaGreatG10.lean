/- What a call hands back in blocks of its own, given up all at once. -/
import Derived.Test.YtjbbbkfdcegfmaaGreatG0V

namespace Go.Proofs.YtjbbbkfdcegfmaaGreat
open Go Go.RowKit
theorem Rd.mG {w : World} {β β' : Nat → Option Loc} {a : Option Addr} {k : Nat} {u : Value} (h : Rd w β a k u) (m : ∀ g,notown β g → notown β' g) : Rd w β' a k u:=by
  obtain ⟨g,o,e,hc,hn⟩:=h
  exact ⟨g,o,e,hc,m g hn⟩
theorem Rd.at_ {w : World} {β β' : Nat → Option Loc} {g o k : Nat} {u : Value} (h : Rd w β (some ⟨g,o,none⟩) k u) (m : notown β' g) : Rd w β' (some ⟨g,o,none⟩) k u:=by
  obtain ⟨g',o',e,hc,_⟩:=h
  simp only [Option.some.injEq,Addr.mk.injEq,and_true] at e
  obtain ⟨rfl,rfl⟩:=e
  exact ⟨_,_,rfl,hc,m⟩
section
variable {w0 w : World} {β : Nat → Option Loc} {b : Nat → Bool} {H : Heap}
theorem lv_okG {β' : Nat → Option Loc} (h : HR w0 w β b H) (m : ∀ g,notown β g → notown β' g) (mo : ∀ id l,β id = some l → H id ≠ none → notown β' l.g) : ∀ (k : Nat) (x : AV) (v : Value),VR w β b x v → VR w β' b (lv H k x) v
  | k,.bool _,_,hx=>by cases k <;> exact hx
  | k,.int _ _,_,hx=>by cases k <;> exact hx
  | k,.str _,_,hx=>by cases k <;> exact hx
  | k,.nil,_,hx=>by cases k <;> exact hx
  | k,.nsl,_,hx=>by cases k <;> exact hx
  | k,.raw _,_,hx=>by cases k <;> exact hx
  | k,.junk,_,_=>by cases k <;> trivial
  | 0,.ptr _ _ _,_,_=>trivial
  | 0,.ip _,_,_=>trivial
  | 0,.isl _,_,_=>trivial
  | 0,.osl _ _ _,_,_=>trivial
  | 0,.agg _,_,_=>trivial
  | 0,.tup _,_,_=>trivial
  | 0,.fn _ _,_,_=>trivial
  | k + 1,.agg cs,_,⟨vs,e,hl⟩=>⟨vs,e,VRL.mapf (lv_okG h m mo k) cs _ hl⟩
  | k + 1,.tup cs,_,⟨vs,e,hl⟩=>⟨vs,e,VRL.mapf (lv_okG h m mo k) cs _ hl⟩
  | k + 1,.fn _ cs,_,⟨vs,e,hl⟩=>⟨vs,e,VRL.mapf (lv_okG h m mo k) cs _ hl⟩
  | k + 1,.ip cs,_,⟨g,o,vs,e,hl,hr⟩=>⟨g,o,vs,e,VRL.mapf (lv_okG h m mo k) cs _ hl,fun j u hu=>(hr j u hu).mG m⟩
  | k + 1,.isl es,_,⟨a,cap,z,vss,e,hc,hl,hr⟩=>⟨a,cap,z,vss,by simpa using e,by simpa using hc,VRLL.mapf (lv_okG h m mo k) es _ hl,fun i vs hi=>⟨(hr i vs hi).1,fun j u hu=>((hr i vs hi).2 j u hu).mG m⟩⟩
  | k + 1,.ptr i e off,v,hx=>by
    unfold lv
    split
    · rename_i z es hH
      split
      · rename_i cs hcs
        obtain ⟨l,hl,hz,c,elem,hg,vss,hvl,hcell⟩:=h.blk i z es hH
        obtain ⟨vs,hvs,hvr⟩:=VRLL.get _ _ e cs hvl hcs
        refine ⟨l.g,l.o + e * l.z + off,vs.drop off,hx.2.2 l hl,VRL.mapf (lv_okG h m mo k) _ _ (VRL.drop off _ _ hvr),fun j u hu=>⟨l.g,l.o + e * l.z + off,rfl,?_,mo i l hl (by rw [hH]; simp)⟩⟩
        have:=(hcell e vs hvs).2 (off + j) u (by simpa using hu)
        simp only [World.cell?,hg,Option.isSome_none,Bool.false_eq_true,if_false]
        rw [← this,hz]; congr 1; omega
      · trivial
    · trivial
  | k + 1,.osl i st n,v,hx=>by
    unfold lv
    split
    · rename_i z es hH
      split
      · rename_i hle
        obtain ⟨l,hl,hz,c,elem,hg,vss,hvl,hcell⟩:=h.blk i z es hH
        obtain ⟨a,cap,hv,hnc,hor⟩:=hx.2.2 l hl
        have hlen : (((es.drop st).take n).map (List.map (lv H k))).length = n:=by simp; omega
        have hR:=Rds.of_block h hl hg hcell
        refine ⟨a,cap,z,(vss.drop st).take n,by rw [hlen]; exact hv,by rw [hlen]; exact hnc,VRLL.mapf (lv_okG h m mo k) _ _ (VRLL.take n _ _ (VRLL.drop st _ _ hvl)),?_⟩
        rcases hor with h0 | ⟨ha,_⟩
        · intro e vs he
          have : n = 0:=by omega
          subst this
          simp at he
        · rw [ha,hz]
          have hR2:=Rds.drop (a:=a) hR st n
          have hno:=mo i l hl (by rw [hH]; simp)
          exact fun i' vs hi=>⟨(hR2 i' vs hi).1,fun j u hu=>((hR2 i' vs hi).2 j u hu).at_ hno⟩
      · trivial
    · trivial
end

/-- A call that hands back blocks of its own, read as told for good. -/
theorem FC.of_lv {P : Program} {f : FuncId} {args : List AV} {r : AV} (k : Nat) {Q : Nat → AV → Heap → Nat → Prop} (hi : idfL args) (hr : idf r) (h : ∀ nx,ACall P f args (fun _=>none) nx (Q nx)) (hq : ∀ nx v H nx',Q nx v H nx' → ∀ w β b u,VR w β b (lv H k v) u → VR w β b r u) : FC P f args r:=by
  intro w β b N vs h1 h2 h3
  have h3':=VRL.idf (β':=β) (b':=bornB N) (fun _ h=>h) _ _ hi h3
  refine (h N w w β vs ⟨Below.refl _ _,fun id z es he=>by simp at he,fun id l hl=>⟨fun hn=>absurd rfl hn,(h1 id l hl).1,by simp [bornB,(h1 id l hl).2]⟩,h2⟩ h3').mono ?_
  rintro e w' ⟨v,r',H',nx',β1,rfl,hQ,hh,hv,hm,hk⟩
  have hf:=lv_okG (β':=β) hh (fun g hg i l' hl' hgg=>hg i l' (hk i l' hl' (h1 i l' hl').1) hgg) (fun id l hl hn i l' hl' hgg=>by
    have a:=(hh.dom id l hl).1 hn
    have c:=(h1 i l' hl').1
    omega) k _ _ hv
  replace hf:=hq _ _ _ _ hQ _ _ _ _ hf
  exact ⟨v,rfl,fun b'=>VR.idf (fun g hg=>hg) _ _ hr hf,hh.below⟩
end Go.Proofs.YtjbbbkfdcegfmaaGreat
