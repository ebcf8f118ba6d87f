/- Regions that draw their order: one operation of such a region; the whole. -/
import Derived.Test.YtjbbbkfdcegfmaaGreatG0H

namespace Go.Proofs.YtjbbbkfdcegfmaaGreat
open Go Go.RowKit

section
variable {P : Program} {ops : Array Oper} {m : Nat} {s : St} {ef : Nat → Ef} {L : Nat → Bool}

/-- Where one is after the operations of a set. -/
abbrev stL (ops : Array Oper) (s : St) (ef : Nat → Ef) (L : Nat → Bool) : St:={ s with env:=eS ops ef s.env L ops.size,heap:=hS ef s.heap L ops.size }

theorem puts_updo (s : St) (d : Option Nat) (v : AV) : puts s d v = { s with env:=updo s.env d v }:=by cases d <;> rfl

theorem DF.addE (F : DF P ops m s ef) {i : Nat} {o : Oper} (ho : ops[i]? = some o) : eS ops ef s.env (upL L i) ops.size = updo (eS ops ef s.env L ops.size) o.dst (ef i).v:=by
  have hi : i < ops.size:=(Array.getElem?_eq_some_iff.1 ho).1
  have hd : dstOf ops i = o.dst:=by simp [dstOf,ho]
  rw [eS_add hi (fun d hd=>F.one i d hd),hd]

/-- After an operation: from what it left. -/
theorem DF.after (F : DF P ops m s ef) (hC : Closed ops L) {i : Nat} {o : Oper} (ho : ops[i]? = some o) (hL : L i = false) {w0 w' : World} {β' : Nat → Option Loc} {a : Act} {v : Value}
    (hs : SRb w0 w' β' (bL s.nx (upL L i)) { s with env:=eS ops ef s.env L ops.size,heap:=hupo (hS ef s.heap L ops.size) (ef i).blk } a) (hv : VR w' β' (bL s.nx (upL L i)) (ef i).v v) :
    SRb w0 w' β' (bL s.nx (upL L i)) (stL ops s ef (upL L i)) (a.put o.dst v):=by
  have h:=hs.put (d:=o.dst) hv (by have:=F.dst i o ho; cases hd : o.dst with | none=>rfl | some t=>simpa [dstOk,hd] using this)
  rw [puts_updo] at h
  unfold stL
  rw [F.addE ho,F.addB hC ho hL]
  exact h

theorem bL_le (nx : Nat) (L : Nat → Bool) (i : Nat) : ∀ id,bL nx L id = true → bL nx (upL L i) id = true:=fun id h=>by rw [bL_up,h]; simp

theorem SRb.bornS {w0 w : World} {β : Nat → Option Loc} {b b' : Nat → Bool} {t : St} {a : Act} (h : ∀ i,b i = true → b' i = true) (k : SRb w0 w β b t a) : SRb w0 w β b' t a :=
  ⟨k.hr.bornS h,k.defers,k.size,fun t=>VR.mon (Mon.bornS h) _ _ (k.env t)⟩

theorem hupd_back {H : Heap} {id : Nat} {x : Option (Nat × List (List AV))} (h : H id = none) : hupd (hupd H id x) id none = H:=by
  funext i
  simp only [hupd]
  split
  · rename_i e; rw [e,h]
  · rfl

theorem Mon.own {w0 w w' : World} {β : Nat → Option Loc} {b : Nat → Bool} {H : Heap} (h : HR w0 w β b H) (hbel : Below w.heap.size w w') {id : Nat} (hid : b id = false) {b' : Nat → Bool} (hb' : ∀ i,b' i = (decide (i = id) || b i)) {l : Loc} (hg : w.heap.size ≤ l.g) :
    Mon w β b w' (bupd β id (some l)) b' :=
  ⟨hbel.size,fun g hg' hn=>⟨hbel.block g hg',fun i l' hl=>by
      unfold bupd at hl
      split at hl
      · simp only [Option.some.injEq] at hl; subst hl; omega
      · exact hn i l' hl⟩,
   fun g e he=>by rw [shape_of_block (hbel.block g (shape_lt he))]; exact he,
   fun i hi=>by rw [hb']; simp [hi],
   fun i l' hi hl=>by
      unfold bupd at hl
      rw [if_neg (by intro e; subst e; rw [hid] at hi; simp at hi)] at hl; exact hl⟩
theorem HR.own {w0 w w' : World} {β : Nat → Option Loc} {b : Nat → Bool} {H : Heap} (h : HR w0 w β b H) (hbel : Below w.heap.size w w') {id : Nat} (hid : b id = false) {b' : Nat → Bool} (hb' : ∀ i,b' i = (decide (i = id) || b i)) {l : Loc} (hg : w.heap.size ≤ l.g) (hg2 : l.g < w'.heap.size)
    {z : Nat} {es : List (List AV)} (hbr : BR w' (bupd β id (some l)) b' l z es) : HR w0 w' (bupd β id (some l)) b' (hupd H id (some (z,es))):=by
  have hm:=Mon.own h hbel hid hb' hg
  have hsz : w0.heap.size ≤ w.heap.size:=h.below.size
  refine ⟨h.below.trans (hbel.mono hsz),?_,?_,?_⟩
  · intro i z' es' he
    unfold hupd at he
    split at he
    · rename_i hi
      simp only [Option.some.injEq,Prod.mk.injEq] at he
      obtain ⟨rfl,rfl⟩:=he
      exact ⟨l,by simp [bupd,hi],hbr⟩
    · rename_i hi
      obtain ⟨l',hl,hb⟩:=h.blk i z' es' he
      exact ⟨l',by simp [bupd,hi,hl],hb.mon hm (hbel.block l'.g (h.dom i l' hl).2.1)⟩
  · intro i l' hl
    unfold bupd at hl
    split at hl
    · rename_i hi
      simp only [Option.some.injEq] at hl; subst hl
      exact ⟨fun _=>by omega,hg2,by rw [hb']; simp [hi]⟩
    · rename_i hi
      obtain ⟨h2,h3,h4⟩:=h.dom i l' hl
      exact ⟨fun hn=>h2 (by simpa [hupd,hi] using hn),Nat.lt_of_lt_of_le h3 hbel.size,by rw [hb',h4]; simp⟩
  · intro i j l1 l2 hl hl' hgg
    unfold bupd at hl hl'
    split at hl <;> split at hl' <;> rename_i hi hj
    · rw [hi,hj]
    · simp only [Option.some.injEq] at hl; subst hl
      have:=(h.dom j l2 hl').2.1
      omega
    · simp only [Option.some.injEq] at hl'; subst hl'
      have:=(h.dom i l1 hl).2.1
      omega
    · exact h.inj i j l1 l2 hl hl' hgg

theorem topId_born {w : World} {β : Nat → Option Loc} {b : Nat → Bool} {x : AV} {v : Value} {id : Nat} (h : topId x = some id) (k : VR w β b x v) : b id = true:=by
  cases x <;> simp only [topId,Option.some.injEq,reduceCtorEq] at h
  case ptr i e o=>subst h; exact k.1
  case osl i e o=>subst h; exact k.1

theorem opNew_congr {P : Program} {e e' : Nat → AV} {id : Nat} {op : Op} (h : ∀ x ∈ op.operands.toList,ev e' x = ev e x) : opNew P e' id op = opNew P e id op:=by
  cases op <;> simp only [opNew]
  case box t x=>rw [h x (by simp [Op.operands])]
  case buildSlice t len ps =>
    have : evs e' ps.toList = evs e ps.toList:=List.map_congr_left fun p hp=>by rw [h p.2 (by simp [Op.operands]; exact ⟨p.1,by simpa using hp⟩)]
    rw [this]
  case makeSlice t l c=>rw [h l (by simp [Op.operands]),h c (by simp [Op.operands])]

theorem opVal_free {P : Program} {s s' : St} {op : Op} {r : AV} (hf : asksB op = false) (h : ∀ x ∈ op.operands.toList,ev s'.env x = ev s.env x) (k : opVal P s op = some r) : opVal P s' op = some r:=by
  cases op <;> simp only [asksB,reduceCtorEq] at hf
  case move x=>simp only [opVal] at k ⊢; rw [h x (by simp [Op.operands])]; exact k
  case pick c x y=>simp only [opVal] at k ⊢; rw [h c (by simp [Op.operands]),h x (by simp [Op.operands]),h y (by simp [Op.operands])]; exact k
  case extract x i=>simp only [opVal] at k ⊢; rw [h x (by simp [Op.operands])]; exact k

/-- One operation, when its time has come. -/
theorem DF.step (F : DF P ops m s ef) (hC : Closed ops L) (hsz : ∀ j,L j = true → j < ops.size) {i : Nat} {o : Oper} (ho : ops[i]? = some o) (hL : L i = false) (hp : ∀ j ∈ pre o,L j = true)
    {w0 w : World} {β : Nat → Option Loc} {a : Act} (hs : SRb w0 w β (bL s.nx L) (stL ops s ef L) a) {Q : Exit → Act → World → Prop} {K : Act → World → Prop}
    (hK : ∀ w' β' a',SRb w0 w' β' (bL s.nx (upL L i)) (stL ops s ef (upL L i)) a' → Mon w β (bL s.nx L) w' β' (bL s.nx (upL L i)) → KeepF w0 β β' → K a' w') : wpOp P ops Q i K a w:=by
  have hlk:=F.looks hC ho hL hp
  have hev:=ev_looks hlk
  have hup:=bL_le s.nx L i
  have hfree : bL s.nx L (s.nx + i) = false:=by simp [bL,hL]
  unfold wpOp
  simp only [ho]
  rcases Nat.lt_or_ge i m with hm | hm
  · have hd:=F.d1 i o ho hm
    have hq : (ef i).q = qids (eS ops ef s.env (fun _=>true) i) o:=hd.blk.2
    have hask:=fun id hid hb q hq=>F.asks hC ho hm hL id hid hb (q:=q) hq
    have hagd : ∀ b,agd ops { s with env:=eS ops ef s.env (fun _=>true) i } o = some b → Region.wanted o (yielded ops a.tmps) = b:=fun b h=>agd_ok hs (by
      rw [← h]; exact agd_congr hlk rfl)
    have hafter:=@DF.after P ops m s ef L F hC i o ho hL w0
    generalize hf : ef i = f at *
    cases hd with
    | off hg =>
      rw [hagd _ hg]
      simp only [Bool.false_eq_true,if_false]
      exact hK w β _ (hafter (hs.bornS hup) ⟨#[],rfl,rfl⟩) (Mon.bornS hup) (KeepF.refl _ _)
    | val v hg h =>
      rw [hagd _ hg]
      simp only [if_true]
      left
      have h' : opVal P (stL ops s ef L) o.op = some v:=by
        by_cases hab : asksB o.op = true
        · exact opVal_congr (s:={ s with env:=eS ops ef s.env (fun _=>true) i,heap:=hS ef s.heap (fun _=>true) i }) (fun x hx=>hev x hx) (fun x hx id q ht hh=>hask id (by rw [hq]; unfold qids; rw [if_pos hab]; exact List.mem_filterMap.mpr ⟨x,hx,ht⟩) (topId_born (by rw [hev x hx]; exact ht) (ev_ok hs x)) q hh) h
        · exact opVal_free (s:={ s with env:=eS ops ef s.env (fun _=>true) i,heap:=hS ef s.heap (fun _=>true) i }) (by simpa using hab) (fun x hx=>hev x hx) h
      obtain ⟨u,hu,hr⟩:=opVal_ok (P:=P) (o:=o) hs h'
      unfold Oper.wp
      rw [hu]
      exact hK w β _ (hafter (hs.bornS hup) (VR.mon (Mon.bornS hup) _ _ hr)) (Mon.bornS hup) (KeepF.refl _ _)
    | new t zs hg hop hz =>
      rw [hagd _ hg]
      simp only [if_true]
      left
      obtain ⟨v,c,elem,vss,hrun,hv,hlaid,hr⟩:=opNew_run (P:=P) (w:=w) (β:=β) (b:=bL s.nx L) (a:=a) (e:=eS ops ef s.env L ops.size) (o:=o) (id:=s.nx + i) (r:=.ptr (s.nx + i) 0 0) (z:=zs.length) (es:=[zs]) (ev_ok hs) (by rw [hop]; simp only [opNew,hz])
      have hb':=fun id=>bL_up s.nx L i id
      have hmn:=Mon.alloc hs.hr hfree hb' (.cells c elem) zs.length 0
      have hh:=HR.alloc hs.hr hfree hb' c elem zs.length [zs] vss hv hlaid
      have hx:=hr (bupd β (s.nx + i) (some ⟨w.heap.size,0,zs.length⟩)) (bL s.nx (upL L i)) (by simp [bupd]) (by rw [bL_up]; simp)
      unfold Oper.wp
      rw [hrun]
      refine hK _ _ _ (hafter ⟨hh,hs.defers,hs.size,fun t=>VR.mon hmn _ _ (hs.env t)⟩ hx) hmn ?_
      intro id l hl _
      unfold bupd
      rw [if_neg (by intro e; subst e; have:=(hs.hr.dom _ l hl).2.2; rw [hfree] at this; simp at this)]; exact hl
    | lit z es hg h =>
      rw [hagd _ hg]
      simp only [if_true]
      left
      have h' : opNew P (eS ops ef s.env L ops.size) (s.nx + i) o.op = some (.osl (s.nx + i) 0 es.length,z,es):=by
        rw [← h]
        exact opNew_congr hev
      obtain ⟨v,c,elem,vss,hrun,hv,hlaid,hr⟩:=opNew_run (P:=P) (w:=w) (β:=β) (b:=bL s.nx L) (a:=a) (e:=eS ops ef s.env L ops.size) (o:=o) (id:=s.nx + i) (ev_ok hs) h'
      have hb':=fun id=>bL_up s.nx L i id
      have hmn:=Mon.alloc hs.hr hfree hb' (.cells c elem) z 0
      have hh:=HR.alloc hs.hr hfree hb' c elem z es vss hv hlaid
      have hx:=hr (bupd β (s.nx + i) (some ⟨w.heap.size,0,z⟩)) (bL s.nx (upL L i)) (by simp [bupd]) (by rw [bL_up]; simp)
      obtain ⟨l,hl,hbr⟩:=hh.blk (s.nx + i) z es (by simp [hupd])
      have hfz:=fz_ok hh hl hbr _ _ hx
      have e1 : fz (s.nx + i) es (.osl (s.nx + i) 0 es.length) = .isl es:=by simp [fz]
      rw [e1] at hfz
      have hn : hS ef s.heap L ops.size (s.nx + i) = none:=by
        cases hh : hS ef s.heap L ops.size (s.nx + i) with
        | none=>rfl
        | some q =>
          obtain ⟨l,hl,_⟩:=hs.hr.blk _ q.1 q.2 hh
          have:=(hs.hr.dom _ l hl).2.2
          rw [hfree] at this; simp at this
      have hh2:=HR.drop hh (s.nx + i)
      rw [hupd_back hn] at hh2
      have hm2:=hmn.trans (Mon.drop hh (s.nx + i))
      unfold Oper.wp
      rw [hrun]
      refine hK _ _ _ (hafter ⟨hh2,hs.defers,hs.size,fun t=>VR.mon hm2 _ _ (hs.env t)⟩ hfz) hm2 ?_
      intro id l hl _
      have hne : id ≠ s.nx + i:=by intro e; subst e; have:=(hs.hr.dom _ l hl).2.2; rw [hfree] at this; simp at this
      unfold bupd
      rw [if_neg hne,if_neg hne]; exact hl
    | call f c x cps args v hg hop hc hx hb ha h =>
      rw [hagd _ hg]
      simp only [if_true]
      left
      have hxE : ev (eS ops ef s.env L ops.size) x = .fn f cps:=by rw [hev x (by rw [hop]; simp [Op.operands,Call.operands,hc])]; exact hx
      have haE : c.args.toList.map (ev (eS ops ef s.env L ops.size)) ++ cps = args:=by
        rw [ev_map_congr (s':=stL ops s ef L) (s:={ s with env:=eS ops ef s.env (fun _=>true) i }) (fun x hx=>hev x (by rw [hop]; simp [Op.operands,Call.operands,hc]; right; simpa using hx))]
        exact ha
      have hxe:=ev_ok hs x
      rw [hxE] at hxe
      obtain ⟨cvs,hcv,hcl⟩:=fnval hxe
      unfold Oper.wp
      rw [call_run hc hcv hop,hasBody_run hb,Oper.upon_enter]
      have h1':=h w β (bL s.nx L) (s.nx + ops.size) (c.args.map a.eval ++ cvs).toList (fun id l hl=>⟨(hs.hr.dom id l hl).2.1,by
        have:=(hs.hr.dom id l hl).2.2
        simp only [bL,Bool.or_eq_true,decide_eq_true_eq] at this
        rcases this with h1 | h1
        · omega
        · have:=hsz _ h1; omega⟩) hs.hr.inj (callargs hs hcl haE)
      simp only [Array.toArray_toList] at h1'
      refine h1'.mono ?_
      rintro e w' ⟨u,rfl,hv,hbel⟩
      have hmn:=Mon.below hs.hr hbel
      have hs1 : SRb w0 w' β (bL s.nx L) (stL ops s ef L) a:=⟨hs.hr.belowS hbel,hs.defers,hs.size,fun t=>VR.mon hmn _ _ (hs.env t)⟩
      exact hK _ _ _ (hafter (hs1.bornS hup) (hv _)) (hmn.trans (Mon.bornS hup)) (KeepF.refl _ _)
    | ext f c x cps args v hg hop hc hx ha h =>
      rw [hagd _ hg]
      simp only [if_true]
      left
      have hxE : ev (eS ops ef s.env L ops.size) x = .fn f cps:=by rw [hev x (by rw [hop]; simp [Op.operands,Call.operands,hc])]; exact hx
      have haE : c.args.toList.map (ev (eS ops ef s.env L ops.size)) ++ cps = args:=by
        rw [ev_map_congr (s':=stL ops s ef L) (s:={ s with env:=eS ops ef s.env (fun _=>true) i }) (fun x hx=>hev x (by rw [hop]; simp [Op.operands,Call.operands,hc]; right; simpa using hx))]
        exact ha
      have hxe:=ev_ok hs x
      rw [hxE] at hxe
      obtain ⟨cvs,hcv,hcl⟩:=fnval hxe
      obtain ⟨u,hu,hr⟩:=h w β (bL s.nx L) (c.args.map a.eval ++ cvs).toList (callargs hs hcl haE)
      simp only [Array.toArray_toList] at hu
      unfold Oper.wp
      rw [call_run hc hcv hop,hu]
      exact hK w β _ (hafter (hs.bornS hup) (VR.mon (Mon.bornS hup) _ _ hr)) (Mon.bornS hup) (KeepF.refl _ _)
    | own f c x cps args z es hg hop hc hx hb ha h =>
      rw [hagd _ hg]
      simp only [if_true]
      left
      have hxE : ev (eS ops ef s.env L ops.size) x = .fn f cps:=by rw [hev x (by rw [hop]; simp [Op.operands,Call.operands,hc])]; exact hx
      have haE : c.args.toList.map (ev (eS ops ef s.env L ops.size)) ++ cps = args:=by
        rw [ev_map_congr (s':=stL ops s ef L) (s:={ s with env:=eS ops ef s.env (fun _=>true) i }) (fun x hx=>hev x (by rw [hop]; simp [Op.operands,Call.operands,hc]; right; simpa using hx))]
        exact ha
      have hxe:=ev_ok hs x
      rw [hxE] at hxe
      obtain ⟨cvs,hcv,hcl⟩:=fnval hxe
      unfold Oper.wp
      rw [call_run hc hcv hop,hasBody_run hb,Oper.upon_enter]
      have h1':=h w β (bL s.nx L) (s.nx + ops.size) (c.args.map a.eval ++ cvs).toList (fun id l hl=>⟨(hs.hr.dom id l hl).2.1,by
        have:=(hs.hr.dom id l hl).2.2
        simp only [bL,Bool.or_eq_true,decide_eq_true_eq] at this
        rcases this with h1 | h1
        · omega
        · have:=hsz _ h1; omega⟩) hs.hr.inj (callargs hs hcl haE)
      simp only [Array.toArray_toList] at h1'
      refine h1'.mono ?_
      rintro e w' ⟨u,l,rfl,hbel,hg1,hg2,hv,c2,elem,hc2,hz,vss,hvl,hcs⟩
      have hb':=fun id=>bL_up s.nx L i id
      have hmn:=Mon.own hs.hr hbel hfree hb' hg1
      have hh:=HR.own hs.hr hbel hfree hb' hg1 hg2 ⟨hz,c2,elem,hc2,vss,hvl _ _,hcs⟩
      have hx:=hv (bupd β (s.nx + i) (some l)) (bL s.nx (upL L i)) (s.nx + i) (by simp [bupd]) (by rw [bL_up]; simp)
      refine hK _ _ _ (hafter ⟨hh,hs.defers,hs.size,fun t=>VR.mon hmn _ _ (hs.env t)⟩ hx) hmn ?_
      intro id l' hl _
      unfold bupd
      rw [if_neg (by intro e; subst e; have:=(hs.hr.dom _ l' hl).2.2; rw [hfree] at this; simp at this)]; exact hl
  · have hd:=F.d2 i o ho hm
    have hthere:=@DF.there P ops m s ef L F hC i
    have hg0:=(F.chain i o ho hm).1
    have hw : Region.wanted o (yielded ops a.tmps) = true:=by simp [Region.wanted,hg0]
    rw [hw]
    simp only [if_true]
    left
    have hafter:=@DF.after P ops m s ef L F hC i o ho hL w0
    have hask2:=fun id hb=>F.asks2 hC ho hm hL hp id hb
    generalize hf : ef i = f at *
    cases hd with
    | val v h =>
      have h' : opVal P (stL ops s ef L) o.op = some v :=
        opVal_congr (s:={ s with env:=eS ops ef s.env (fun _=>true) i,heap:=hS ef s.heap (fun _=>true) i }) (fun x hx=>hev x hx) (fun x hx id q ht hh=>(hask2 id (topId_born (by rw [hev x hx]; exact ht) (ev_ok hs x))).trans hh) h
      obtain ⟨u,hu,hr⟩:=opVal_ok (P:=P) (o:=o) hs h'
      unfold Oper.wp
      rw [hu]
      exact hK w β _ (hafter (hs.bornS hup) (VR.mon (Mon.bornS hup) _ _ hr)) (Mon.bornS hup) (KeepF.refl _ _)
    | asg x hop =>
      have h' : opVal P (stL ops s ef L) o.op = some (ev (eS ops ef s.env (fun _=>true) i) x):=by
        rw [hop]; simp only [opVal]; rw [hev x (by rw [hop]; simp [Op.operands])]
      obtain ⟨u,hu,hr⟩:=opVal_ok (P:=P) (o:=o) hs h'
      unfold Oper.wp
      rw [hu]
      exact hK w β _ (hafter (hs.bornS hup) (VR.mon (Mon.bornS hup) _ _ hr)) (Mon.bornS hup) (KeepF.refl _ _)
    | sto pl id z es hdn h hpl hc =>
      have h' : opSto1 P (stL ops s ef L) o.op = some (id,z,es):=opSto1_congr (fun x hx=>hev x hx) (hthere ho hm hL hp rfl) h
      obtain ⟨w',hrun,hmn,hh⟩:=opSto_ok (P:=P) (o:=o) hs (opSto1_sto h')
      unfold Oper.wp
      rw [hrun,Oper.upon_skip]
      have hs1 : SRb w0 w' β (bL s.nx L) { s with env:=eS ops ef s.env L ops.size,heap:=hupd (hS ef s.heap L ops.size) id (some (z,es)) } a:=⟨hh,hs.defers,hs.size,fun t=>VR.mon hmn _ _ (hs.env t)⟩
      have:=hafter (v:=undef) (hs1.bornS hup) trivial
      exact hK w' β _ this (hmn.trans (Mon.bornS hup)) (KeepF.refl _ _)

/-- What is ready has nothing ahead of it that is not done. -/
theorem pre_listed {o : Oper} {listed : Array Bool} (h : ∀ e ∈ o.after,Region.binds .any e = true → listed.getD e.on false = true) : ∀ j ∈ pre o,Ld listed j = true:=by
  intro j hj
  unfold pre at hj
  obtain ⟨e,he,rfl⟩:=List.mem_map.mp hj
  obtain ⟨h1,h2⟩:=List.mem_filter.mp he
  exact h e (by simpa using h1) h2
theorem listed_pre {o : Oper} {listed : Array Bool} (h : ∀ j ∈ pre o,Ld listed j = true) : ∀ e ∈ o.after,Region.binds .any e = true → listed.getD e.on false = true:=by
  intro e he hb
  exact h _ (List.mem_map.mpr ⟨e,List.mem_filter.mpr ⟨by simpa using he,hb⟩,rfl⟩)

theorem Ld_set {listed : Array Bool} {i : Nat} (hi : i < listed.size) : Ld (listed.setIfInBounds i true) = upL (Ld listed) i:=by
  funext j
  unfold Ld upL
  by_cases h : j = i
  · subst h; simp [hi]
  · rw [getD_set_ne _ (Ne.symm h)]; simp [h]

theorem DF.done (F : DF P ops m s ef) (h : ∀ j,j < ops.size → L j = true) : stL ops s ef L = stL ops s ef (fun _=>true):=by
  unfold stL
  have e1 : eS ops ef s.env L ops.size = eS ops ef s.env (fun _=>true) ops.size:=by
    funext t; exact eS_congr _ fun j hj _=>h j hj
  have e2 : hS ef s.heap L ops.size = hS ef s.heap (fun _=>true) ops.size:=by
    funext t; exact hS_congr _ fun j hj _=>h j hj
  rw [e1,e2]

theorem DF.go (F : DF P ops m s ef) {w0 w00 : World} {β0 : Nat → Option Loc} {Q : Exit → Act → World → Prop}
    (hQ : ∀ w' β' a',SR w0 w' β' { stL ops s ef (fun _=>true) with nx:=s.nx + ops.size } a' → Mon w00 β0 (bornB s.nx) w' β' (bornB (s.nx + ops.size)) → KeepF w0 β0 β' → Q .normal a' w') :
    ∀ (fuel : Nat) (listed : Array Bool) (w : World) (β : Nat → Option Loc) (a : Act),listed.size = ops.size → Closed ops (Ld listed) → cnt (Ld listed) ops.size ≤ fuel → SRb w0 w β (bL s.nx (Ld listed)) (stL ops s ef (Ld listed)) a →
      Mon w00 β0 (bornB s.nx) w β (bL s.nx (Ld listed)) → KeepF w0 β0 β → wpAny P .any ops Q fuel listed a w:=by
  have hdone : ∀ (listed : Array Bool) (w : World) (β : Nat → Option Loc) (a : Act),listed.size = ops.size → (∀ j,j < ops.size → Ld listed j = true) → SRb w0 w β (bL s.nx (Ld listed)) (stL ops s ef (Ld listed)) a →
      Mon w00 β0 (bornB s.nx) w β (bL s.nx (Ld listed)) → KeepF w0 β0 β → Q .normal a w:=by
    intro listed w β a hsz hall hs hm hk
    rw [F.done hall] at hs
    have hb : ∀ id,bL s.nx (Ld listed) id = true → bornB (s.nx + ops.size) id = true:=by
      intro id h
      simp only [bL,Bool.or_eq_true,decide_eq_true_eq,bornB] at h ⊢
      rcases h with h | h
      · omega
      · have : id - s.nx < listed.size:=by
          rcases Nat.lt_or_ge (id - s.nx) listed.size with h' | h'
          · exact h'
          · simp [Ld,Array.getElem?_eq_none h'] at h
        omega
    have h1:=hs.bornS hb
    exact hQ w β a ⟨h1.hr,h1.defers,h1.size,h1.env⟩ (hm.trans (Mon.bornS hb)) hk
  have hno : ∀ (listed : Array Bool),listed.size = ops.size → Region.ready .any ops listed = [] → ∀ j,j < ops.size → Ld listed j = true:=by
    intro listed hsz hr j
    induction j using Nat.strongRecOn with
    | _ j ih =>
      intro hj
      cases hL : Ld listed j with
      | true=>rfl
      | false =>
        exfalso
        have ho : ops[j]? = some ops[j]:=by simp [hj]
        have : j ∈ Region.ready .any ops listed:=mem_ready.mpr ⟨by
          unfold Ld at hL
          have : j < listed.size:=by omega
          simp [this] at hL ⊢; exact hL,_,ho,listed_pre fun k hk=>ih k (F.lt j _ ho k hk) (by have:=F.lt j _ ho k hk; omega)⟩
        rw [hr] at this; simp at this
  intro fuel
  induction fuel with
  | zero =>
    intro listed w β a hsz hC hc hs hm hk
    have hall:=cnt_zero (L:=Ld listed) ops.size (by omega)
    refine ⟨?_,hdone listed w β a hsz hall hs hm hk⟩
    cases hr : Region.ready .any ops listed with
    | nil=>rfl
    | cons i r =>
      exfalso
      obtain ⟨h1,o,ho,_⟩:=(mem_ready (md:=.any) (ops:=ops) (listed:=listed) (j:=i)).mp (by rw [hr]; simp)
      have hi : i < ops.size:=(Array.getElem?_eq_some_iff.1 ho).1
      have:=hall i hi
      unfold Ld at this
      have hl : i < listed.size:=by omega
      simp [hl] at this h1
      rw [h1] at this; simp at this
  | succ fuel ih =>
    intro listed w β a hsz hC hc hs hm hk
    refine ⟨fun hr=>hdone listed w β a hsz (hno listed hsz hr) hs hm hk,fun i hi=>?_⟩
    obtain ⟨h1,o,ho,h2⟩:=mem_ready.mp hi
    have hlt : i < ops.size:=(Array.getElem?_eq_some_iff.1 ho).1
    have hll : i < listed.size:=by omega
    have hL : Ld listed i = false:=by unfold Ld; simp [hll] at h1 ⊢; exact h1
    have hp:=pre_listed h2
    refine F.step hC (fun j hj=>?_) ho hL hp hs fun w' β' a' hs' hm' hk'=>?_
    · rcases Nat.lt_or_ge j listed.size with h' | h'
      · omega
      · simp [Ld,Array.getElem?_eq_none h'] at hj
    · rw [← Ld_set hll] at hs' hm'
      refine ih (listed.setIfInBounds i true) w' β' a' (by simpa using hsz) (by rw [Ld_set hll]; exact hC.up ho hp) ?_ hs' (hm.trans hm') (hk.trans hk')
      rw [Ld_set hll]
      have:=cnt_up hL ops.size hlt
      omega
end

theorem eS_ef {ops : Array Oper} {ef ef' : Nat → Ef} {e0 : Nat → AV} {L : Nat → Bool} : ∀ n,(∀ k,k < n → ef k = ef' k) → eS ops ef e0 L n = eS ops ef' e0 L n
  | 0,_=>rfl
  | k + 1,h=>by rw [eS_succ,eS_succ,h k (by omega),eS_ef k fun j hj=>h j (by omega)]
theorem hS_ef {ef ef' : Nat → Ef} {H0 : Heap} {L : Nat → Bool} : ∀ n,(∀ k,k < n → ef k = ef' k) → hS ef H0 L n = hS ef' H0 L n
  | 0,_=>rfl
  | k + 1,h=>by rw [hS_succ,hS_succ,h k (by omega),hS_ef k fun j hj=>h j (by omega)]

section
variable {P : Program} {ops : Array Oper} {s : St}
theorem DP.collect : ∀ (l : List Oper) (i : Nat) (e : Nat → AV) (H : Heap) (K : (Nat → AV) → Heap → List Ef → Prop),DP P ops s l i e H K → (∀ k o,l[k]? = some o → ops[i + k]? = some o) →
    ∃ fs : List Ef,fs.length = l.length ∧ ∀ ef : Nat → Ef,(∀ k f,fs[k]? = some f → ef (i + k) = f) → e = eS ops ef s.env (fun _=>true) i → H = hS ef s.heap (fun _=>true) i →
      (∀ k o,l[k]? = some o → D1 P ops s (i + k) (eS ops ef s.env (fun _=>true) (i + k)) (hS ef s.heap (fun _=>true) (i + k)) o (ef (i + k)) ∧ dstOk s o.dst = true) ∧
      K (eS ops ef s.env (fun _=>true) (i + l.length)) (hS ef s.heap (fun _=>true) (i + l.length)) fs
  | [],i,e,H,K,h,_=>⟨[],rfl,fun ef _ he hH=>⟨fun k o hk=>by simp at hk,by subst he hH; exact h⟩⟩
  | o :: r,i,e,H,K,⟨f,h1,h2,h3⟩,hl=>by
    obtain ⟨fs,hlen,hfs⟩:=DP.collect r (i + 1) _ _ _ h3 (fun k o hk=>by have:=hl (k + 1) o (by simpa using hk); rw [show i + 1 + k = i + (k + 1) by omega]; exact this)
    refine ⟨f :: fs,by simp [hlen],fun ef hef he hH=>?_⟩
    have hfi : ef i = f:=by simpa using hef 0 f (by simp)
    have ho : ops[i]? = some o:=by simpa using hl 0 o (by simp)
    obtain ⟨k1,k2⟩:=hfs ef (fun k g hg=>by have:=hef (k + 1) g (by simpa using hg); rw [← this]; congr 1; omega)
      (by rw [eS_succ,← he,hfi]; simp [dstOf,ho]) (by rw [hS_succ,← hH,hfi]; simp)
    refine ⟨fun k o' hk=>?_,?_⟩
    · cases k with
      | zero =>
        simp only [List.getElem?_cons_zero,Option.some.injEq] at hk; subst hk
        refine ⟨?_,h2⟩
        rw [Nat.add_zero,hfi,← he,← hH]; exact h1
      | succ k =>
        have:=k1 k o' (by simpa using hk)
        rw [show i + 1 + k = i + (k + 1) by omega] at this
        exact this
    · rw [List.length_cons,show i + (r.length + 1) = i + 1 + r.length by omega]; exact k2

theorem DQ.collect {lp : List Ef} : ∀ (l : List Oper) (i : Nat) (t : St) (K : St → Prop),DQ P ops s lp l t K → (∀ k o,l[k]? = some o → ops[i + k]? = some o) →
    ∃ fs : List Ef,fs.length = l.length ∧ ∀ ef : Nat → Ef,(∀ k f,fs[k]? = some f → ef (i + k) = f) → t.env = eS ops ef s.env (fun _=>true) i → t.heap = hS ef s.heap (fun _=>true) i →
      (∀ k o,l[k]? = some o → D2 P ops s lp o { t with env:=eS ops ef s.env (fun _=>true) (i + k),heap:=hS ef s.heap (fun _=>true) (i + k) } (ef (i + k)) ∧ dstOk s o.dst = true) ∧
      K { t with env:=eS ops ef s.env (fun _=>true) (i + l.length),heap:=hS ef s.heap (fun _=>true) (i + l.length) }
  | [],i,t,K,h,_=>⟨[],rfl,fun ef _ he hH=>⟨fun k o hk=>by simp at hk,by simp only [List.length_nil,Nat.add_zero]; rw [← he,← hH]; exact h⟩⟩
  | o :: r,i,t,K,⟨f,h1,h2,h3⟩,hl=>by
    obtain ⟨fs,hlen,hfs⟩:=DQ.collect r (i + 1) _ _ h3 (fun k o hk=>by have:=hl (k + 1) o (by simpa using hk); rw [show i + 1 + k = i + (k + 1) by omega]; exact this)
    refine ⟨f :: fs,by simp [hlen],fun ef hef he hH=>?_⟩
    have hfi : ef i = f:=by simpa using hef 0 f (by simp)
    have ho : ops[i]? = some o:=by simpa using hl 0 o (by simp)
    obtain ⟨k1,k2⟩:=hfs ef (fun k g hg=>by have:=hef (k + 1) g (by simpa using hg); rw [← this]; congr 1; omega)
      (by rw [eS_succ,← he,hfi]; simp [dstOf,ho]) (by rw [hS_succ,← hH,hfi]; simp)
    refine ⟨fun k o' hk=>?_,?_⟩
    · cases k with
      | zero =>
        simp only [List.getElem?_cons_zero,Option.some.injEq] at hk; subst hk
        refine ⟨?_,h2⟩
        rw [Nat.add_zero,hfi,← he,← hH]; exact h1
      | succ k =>
        have:=k1 k o' (by simpa using hk)
        rw [show i + 1 + k = i + (k + 1) by omega] at this
        exact this
    · rw [List.length_cons,show i + (r.length + 1) = i + 1 + r.length by omega]; exact k2

/-- In every order, from a drawn world on. -/
def AANY (P : Program) (ops : Array Oper) (K : St → Prop) (s : St) : Prop :=
  ∀ (w0 w : World) (β : Nat → Option Loc) (a : Act) (Q : Exit → Act → World → Prop),SR w0 w β s a →
    (∀ w' β' a' s',K s' → SR w0 w' β' s' a' → MonS w0 w β s w' β' s' → Q .normal a' w') → wpAny P .any ops Q ops.size (Array.replicate ops.size false) a w.drew
theorem AANY.draw {K : St → Prop} (m : Nat) (hc : drawOk ops m = true) (hms : m ≤ ops.size)
    (h : DP P ops s (ops.toList.take m) 0 s.env s.heap fun e H l=>DQ P ops s l (ops.toList.drop m) { s with env:=e,heap:=H } fun s'=>K { s' with nx:=s.nx + ops.size }) : AANY P ops K s:=by
  intro w0 w β a Q hs hq
  obtain ⟨fp,hfp,hp⟩:=DP.collect _ _ _ _ _ h (fun k o hk=>by
    rw [List.getElem?_take] at hk
    split at hk
    · simpa using hk
    · simp at hk)
  have hlp : (ops.toList.take m).length = m:=by simp; omega
  rw [hlp] at hfp hp
  obtain ⟨_,hq0⟩:=hp (fun k=>(fp[k]?).getD ⟨.junk,none,[]⟩) (fun k f hk=>by simp [hk]) rfl rfl
  obtain ⟨fq,hfq,hp2⟩:=DQ.collect (ops:=ops) _ m _ _ hq0 (fun k o hk=>by rw [List.getElem?_drop] at hk; simpa using hk)
  have hlq : (ops.toList.drop m).length = ops.size - m:=by simp
  rw [hlq] at hfq hp2
  let ef : Nat → Ef:=fun k=>if k < m then (fp[k]?).getD ⟨.junk,none,[]⟩ else (fq[k - m]?).getD ⟨.junk,none,[]⟩
  have e0 : ∀ k,k < m → (fun k=>(fp[k]?).getD (⟨.junk,none,[]⟩ : Ef)) k = ef k:=fun k hk=>by simp [ef,hk]
  obtain ⟨hD1,_⟩:=hp ef (fun k f hk=>by
    have : k < m:=by
      rcases Nat.lt_or_ge k fp.length with h' | h'
      · omega
      · rw [List.getElem?_eq_none h'] at hk; simp at hk
    simp [ef,this,hk]) rfl rfl
  obtain ⟨hD2,hK⟩:=hp2 ef (fun k f hk=>by simp [ef,hk]; intro h; omega) (by rw [Nat.zero_add]; exact eS_ef m e0) (by rw [Nat.zero_add]; exact hS_ef m e0)
  rw [show m + (ops.size - m) = ops.size by omega] at hK
  have hfpe : fp = (List.range m).map ef:=by
    apply List.ext_getElem?
    intro k
    rcases Nat.lt_or_ge k m with hk | hk
    · have : k < fp.length:=by omega
      simp [ef,hk,this]
    · rw [List.getElem?_eq_none (by omega),List.getElem?_eq_none (by simp; omega)]
  have hall : ∀ i o,ops[i]? = some o → i < ops.size:=fun i o ho=>(Array.getElem?_eq_some_iff.1 ho).1
  have hck : ∀ i o,ops[i]? = some o → _:=fun i o ho=>by
    have:=List.all_eq_true.mp hc i (List.mem_range.mpr (hall i o ho))
    rw [ho] at this
    simp only [Bool.and_eq_true] at this
    exact this
  have F : DF P ops m s ef:=by
    refine ⟨?_,?_,?_,?_,?_,?_,?_,?_,hms⟩
    · intro i o ho j hj
      have:=List.all_eq_true.mp (hck i o ho).1.1.1 j hj
      simpa using this
    · intro i o ho hmi
      have:=(hck i o ho).1.1.2
      rw [if_neg (by omega)] at this
      simp only [Bool.and_eq_true,Bool.or_eq_true,beq_iff_eq,Option.isNone_iff_eq_none,List.contains_iff_mem] at this
      exact ⟨this.1,this.2⟩
    · intro i d hd j hj hne
      unfold dstOf at hd
      obtain ⟨o,ho,hd⟩:=Option.bind_eq_some_iff.mp hd
      have:=(hck i o ho).1.2
      rw [hd] at this
      have:=List.all_eq_true.mp this j (List.mem_range.mpr hj)
      simpa [hne] using this
    · intro i o ho t ht j hj hd
      have:=List.all_eq_true.mp (hck i o ho).2 t ht
      have:=List.all_eq_true.mp this j (List.mem_range.mpr hj)
      have hoj : ops[j]? = some ops[j]:=by simp [hj]
      rw [hoj] at this
      have hd' : ops[j].dst = some t:=by simpa [dstOf,hoj] using hd
      simp only [hd',bne_self_eq_false,Bool.false_or,Bool.or_eq_true,Bool.and_eq_true,decide_eq_true_eq,List.contains_iff_mem] at this
      rcases this with h1 | h1
      · exact .inl h1
      · exact .inr ⟨h1.1,fun p hp=>by rw [hoj] at hp; simp only [Option.some.injEq] at hp; subst hp; exact h1.2⟩
    · intro i o ho hi
      have:=(hD1 i o (by rw [List.getElem?_take,if_pos hi]; simpa using ho)).1
      simpa using this
    · intro i o ho hi
      have:=(hD2 (i - m) o (by rw [List.getElem?_drop,show m + (i - m) = i by omega]; simpa using ho)).1
      rw [show m + (i - m) = i by omega,hfpe] at this
      exact this
    · intro i o ho
      rcases Nat.lt_or_ge i m with hi | hi
      · exact (hD1 i o (by rw [List.getElem?_take,if_pos hi]; simpa using ho)).2
      · exact (hD2 (i - m) o (by rw [List.getElem?_drop,show m + (i - m) = i by omega]; simpa using ho)).2
    · intro id q hq
      obtain ⟨l,hl,_⟩:=hs.hr.blk id q.1 q.2 hq
      have:=(hs.hr.dom id l hl).2.2
      simpa [bornB] using this
  have hL0 : Ld (Array.replicate ops.size false) = fun _=>false:=by
    funext j
    unfold Ld
    simp only [Array.getD_eq_getD_getElem?,Array.getElem?_replicate]
    split <;> rfl
  have e1 : ∀ n,eS ops ef s.env (fun _=>false) n = s.env:=fun n=>by induction n with
    | zero=>rfl
    | succ n ih=>rw [eS_succ]; simpa using ih
  have e2 : ∀ n,hS ef s.heap (fun _=>false) n = s.heap:=fun n=>by induction n with
    | zero=>rfl
    | succ n ih=>rw [hS_succ]; simpa using ih
  have hb : bL s.nx (fun _=>false) = bornB s.nx:=by funext id; simp [bL,bornB]
  refine F.go (w00:=w) (β0:=β) (w0:=w0) ?_ ops.size _ w.drew β a (by simp) (by rw [hL0]; intro i o h; simp at h) (cnt_le _ _) ?_ ?_ (KeepF.refl _ _)
  · intro w' β' a' hs' hm' hk'
    exact hq w' β' a' _ hK hs' ⟨hm',hk'⟩
  · rw [hL0,hb]
    unfold stL
    rw [e1,e2]
    exact ⟨hs.hr.drew,hs.defers,hs.size,fun t=>VR.mon Mon.drew _ _ (hs.env t)⟩
  · rw [hL0,hb]; exact Mon.drew
/-- A region that draws its order. -/
theorem AWP.draw {id : Nat} {K : Exit → St → Prop} (m : Nat) (hm : P.follows .mixedOrders = true) (hc : drawOk ops m = true) (hms : m ≤ ops.size)
    (h : DP P ops s (ops.toList.take m) 0 s.env s.heap fun e H l=>DQ P ops s l (ops.toList.drop m) { s with env:=e,heap:=H } fun s'=>K .normal { s' with nx:=s.nx + ops.size }) : AWP P (.region id ops true) K s:=by
  intro w0 w β a Q hs hq
  exact wp_region_any hm (AANY.draw (K:=fun s'=>K .normal s') m hc hms h w0 w β a Q hs fun w' β' a' s' k hs' hm'=>hq .normal w' β' a' s' k hs' hm')
end
end Go.Proofs.YtjbbbkfdcegfmaaGreat
