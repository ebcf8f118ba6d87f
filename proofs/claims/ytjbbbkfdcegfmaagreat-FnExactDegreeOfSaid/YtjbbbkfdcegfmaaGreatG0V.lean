/- Calls that hand back a new block of one's own; rows that are marked. -/
import Derived.Test.YtjbbbkfdcegfmaaGreatG0U

namespace Go.Proofs.YtjbbbkfdcegfmaaGreat
open Go Go.RowKit

/-- A heap of one block. -/
def hone (id z : Nat) (es : List (List AV)) : Heap:=fun i=>if i = id then some (z,es) else none
theorem hrestr_one {H : Heap} {id z : Nat} {es : List (List AV)} (h : H id = some (z,es)) : hrestr (fun i=>decide (i = id)) H = hone id z es:=by
  funext i; simp only [hrestr,hone,decide_eq_true_eq]; split
  · rename_i e; rw [e,h]
  · rfl
/-- What a call hands back: a value that speaks of one new block. -/
def own1 (nx z : Nat) (es : List (List AV)) (mk : Nat → AV) : AV → Heap → Nat → Prop:=fun r H nx'=>∃ id,nx ≤ id ∧ id < nx' ∧ r = mk id ∧ H = hone id z es
theorem Fin.own1 {P : Program} {fn : Func} {s : St} {r : AV} {id z : Nat} {es : List (List AV)} (h : Fin P fn s r s.heap s.nx) (hH : s.heap id = some (z,es)) : Fin P fn s r (hone id z es) s.nx:=by
  rw [← hrestr_one hH]; exact h.restr _
section
variable {P : Program} {ops : Array Oper} {K : St → Prop} {s : St} {o : Oper} {rest : List Oper}
theorem AOPS.ocallL (k : Nat) {f : FuncId} {c : Call} {x : Operand} {cps args : List AV} {z : Nat} {es : List (List AV)} {mk : Nat → AV} (h1 : ACall P f args (fun _=>none) s.nx (YtjbbbkfdcegfmaaGreat.own1 s.nx z es mk)) (ho : o.op = .call c) (hc : c.callee = .value x) (hx : ev s.env x = .fn f cps) (hb : hasBody P f = true)
    (ha : (c.args.toList.map (ev s.env) ++ cps).map (lv s.heap k) = args) (hr : (∀ id,s.nx ≤ id → nwr s.nx (mk id)) ∧ ∀ l ∈ es,nwrL s.nx l) (hg : agd ops s o = some true) (hd : dstOk s o.dst = true)
    (h : ∀ id nx',s.nx ≤ id → id < nx' → AOPS P ops rest K (puts { s with heap:=hupd s.heap id (some (z,es)),nx:=nx' } o.dst (mk id))) : AOPS P ops (o :: rest) K s:=by
  refine AOPS.old fun hold=>?_
  refine AOPS.lacall k h1 ho hc hx hb ha (fun r H nx' hq=>?_) hg hd (fun r H nx' hq hle=>?_)
  · obtain ⟨id,q1,q2,rfl,rfl⟩:=hq
    refine ⟨hr.1 id q1,fun i q hi l hl=>?_⟩
    simp only [hone] at hi
    split at hi
    · simp only [Option.some.injEq] at hi; subst hi; exact hr.2 l hl
    · simp at hi
  · obtain ⟨id,q1,q2,rfl,rfl⟩:=hq
    have e : hjoin s.nx s.heap (hone id z es) = hupd s.heap id (some (z,es)):=by
      funext i; simp only [hjoin,hone,hupd]
      split
      · rename_i hi; rw [if_neg (by omega)]
      · rename_i hi
        split
        · rfl
        · cases hh : s.heap i with
          | none=>rfl
          | some q=>have:=hold i q hh; omega
    rw [e]
    exact h id nx' q1 q2
end
section
variable {P : Program} {f : FuncId} {args : List AV}
/-- A new block of one's own, given up at once. -/
theorem FC.of_own {z : Nat} {es : List (List AV)} {mk : Nat → AV} {r : AV} (hi : idfL args) (hr : idf r) (hz : ∀ id,fz id es (mk id) = r) (h : ∀ nx,ACall P f args (fun _=>none) nx (YtjbbbkfdcegfmaaGreat.own1 nx z es mk)) : FC P f args r:=by
  intro w β b N vs h1 h2 h3
  have h3':=VRL.idf (β':=β) (b':=bornB N) (fun _ h=>h) _ _ hi h3
  refine (h N w w β vs ⟨Below.refl _ _,fun id z es he=>by simp at he,fun id l hl=>⟨fun hn=>absurd rfl hn,(h1 id l hl).1,by simp [bornB,(h1 id l hl).2]⟩,h2⟩ h3').mono ?_
  rintro e w' ⟨v,r',H',nx',β1,rfl,⟨id,q1,q2,rfl,rfl⟩,hh,hv,hm,hk⟩
  obtain ⟨l,hl,hb⟩:=hh.blk id z es (by simp [hone])
  have hf:=fz_ok hh hl hb _ _ hv
  rw [hz] at hf
  refine ⟨v,rfl,fun b'=>VR.idf (fun g hg i l' hl' hgg=>?_) _ _ hr hf,hh.below⟩
  have hki:=hk i l' hl' (h1 i l' hl').1
  have hne : i ≠ id:=by have:=(h1 i l' hl').2; omega
  exact hg i l' (by simp [bupd,hne,hki]) hgg
end
section
variable {P : Program} {ops : Array Oper} {K : St → Prop} {s : St} {o : Oper} {rest : List Oper}
end
/-- Rows of a block, made by their numbers. -/
def mkR (f : Nat → List AV) (n : Nat) : List (List AV):=(List.range n).map f
theorem mkR_len (f : Nat → List AV) (n : Nat) : (mkR f n).length = n:=by simp [mkR]
theorem mkR_get (f : Nat → List AV) {n i : Nat} (h : i < n) : (mkR f n)[i]? = some (f i):=by simp [mkR,h]
end Go.Proofs.YtjbbbkfdcegfmaaGreat
