/- Appends as operations. -/
import Derived.Test.YtjbbbkfdcegfmaaGreatG0L

namespace Go.Proofs.YtjbbbkfdcegfmaaGreat
open Go Go.RowKit

theorem app_room_none {P : Program} {w : World} {t t1 ty el : TypeId} {i : TypeInfo} {z : Value} {x : Value} {news : List Value} (ht : P.underlying t = some (.slice el)) (hi : P.info? el = some i) (hs : Src P w i z t1 x 0 news) (cap : Nat) :
    (Builtin.append_ #[t,t1] ty #[.slice none 0 cap,x]).run P w = .ok (.slice none 0 cap) w:=by
  cases hs with
  | sl a' c e hx ht1 hl hn =>
    subst hx
    have hf:=firstCells_any (P:=P) (w:=w) (c:=c) hl hn
    simp [Builtin.append_,run_underlying ht,run_underlying ht1,sizeOf,typeInfo,hi,Builtin.lenOf,hf]
  | zs k k' hx ht1 hm hb hn h0=>simp at h0

section
variable {P : Program} {w0 w : World} {β : Nat → Option Loc} {b : Nat → Bool} {s : St} {a : Act}

theorem HR.cut {H : Heap} (h : HR w0 w β b H) {id z : Nat} {es : List (List AV)} (hH : H id = some (z,es)) (k : Nat) : HR w0 w β b (hupd H id (some (z,es.take k))):=by
  obtain ⟨l,hl,hz,c,e,hg,vss,hv,hc⟩:=h.blk id z es hH
  have:=HR.setRow h (id:=id) (by rw [hH]; simp) hl hg rfl z (es.take k) (vss.take k) hz (VRLL.take _ _ _ hv) (fun e' vs he=>by
    rw [List.getElem?_take] at he
    split at he
    · exact hc e' vs he
    · simp at he)
  rwa [setRow_self w l.g c e (0,0) hg] at this

theorem hupd_same (H : Heap) (id : Nat) (x y : Option (Nat × List (List AV))) : hupd (hupd H id x) id y = hupd H id y:=by
  funext i; simp only [hupd]; split <;> rfl

/-- An append, run. -/
theorem opApp_ok (hs : SR w0 w β s a) {o : Oper} {d : Option Nat} {z : Nat} {es : List (List AV)} (h : opApp P s o.op = some (d,z,es)) :
    ∃ v w' β',(execOp a.eval o).run P w = .ok (.value v) w' ∧ HR w0 w' β' (bornB (s.nx + 1)) (hupd (hdrop s.heap d) s.nx (some (z,es))) ∧ Mon w β (bornB s.nx) w' β' (bornB (s.nx + 1)) ∧ KeepF w0 β β' ∧ VR w' β' (bornB (s.nx + 1)) (.osl s.nx 0 es.length) v:=by
  obtain ⟨dst,op,type,pos,after,guard⟩:=o
  simp only [] at h
  cases op <;> simp only [opApp,reduceCtorEq] at h
  case call c =>
  split at h
  case h_2=>simp at h
  rename_i x y t t1 hcal hargs hts
  split at h
  case h_2=>simp at h
  rename_i el hel
  split at h
  case h_2=>simp at h
  rename_i sz by' zs src hszz hbyy hzs hsrc
  obtain ⟨i,hi,rfl,rfl⟩:=info_of hszz hbyy
  split at h
  case isFalse=>simp at h
  rename_i hc
  obtain ⟨c1,c2,c3⟩:=hc
  have hel':=elOf_under hel
  obtain ⟨zv,hzrun,hzv,i',hi',hzz⟩:=zOf_ok (P:=P) (w:=w) (β:=β) (b:=bornB s.nx) hzs
  rw [hi] at hi'; simp only [Option.some.injEq] at hi'; subst hi'
  have hzl : zv.cells.size = i.size:=by have:=VRL.length _ _ hzv; simpa [c1] using this
  obtain ⟨vssN,hS,hvN,hlN⟩:=aSrc_ok hs (ev_ok hs y) hsrc hi hzz hzs hzv c2 (fun c hc=>(c3 c hc).1)
  have hlenN:=VRLL.length _ _ hvN
  have hflN : vssN.flatten.length = src.length * i.size:=by rw [flat_len _ hlN,hlenN]
  have honeN : ∀ v ∈ vssN.flatten,v.oneCell' = true:=by
    refine avOnes_ok (VRL.flat _ _ hvN) ?_
    rw [List.all_eq_true]
    intro q hq
    obtain ⟨c',hc',hqc⟩:=List.mem_flatten.mp hq
    exact List.all_eq_true.mp (c3 c' hc').2 q hqc
  have hnx : bornB s.nx s.nx = false:=by simp [bornB]
  have hrunE : ∀ v w',(Builtin.append_ #[t,t1] type #[a.eval x,a.eval y]).run P w = .ok v w' → (execOp a.eval ⟨dst,.call c,type,pos,after,guard⟩).run P w = .ok (.value v) w':=by
    intro v w' hr
    have e1 : c.args.map a.eval = #[a.eval x,a.eval y]:=by
      have : c.args = #[x,y]:=by apply Array.ext'; simpa using hargs
      rw [this]; simp
    have e2 : c.argTypes = #[t,t1]:=by apply Array.ext'; simpa using hts
    simp only [execOp,resolve,hcal,Sem.run_bind,Sem.run_pure,Result.andThen_ok,invoke,e1,e2]
    simp only [builtin,Sem.run_bind,hr,Result.andThen_ok,Sem.run_pure]
  have hxe:=ev_ok hs x
  split at h
  · rename_i id st n hx
    rw [hx] at hxe
    split at h
    case h_2=>simp at h
    rename_i z' es' hH
    split at h
    case isFalse=>simp at h
    rename_i hcc
    obtain ⟨d1,d2,d3,d4⟩:=hcc
    simp only [Option.some.injEq,Prod.mk.injEq] at h
    obtain ⟨rfl,rfl,rfl⟩:=h
    obtain ⟨l,hl,hbr⟩:=hs.hr.blk id z' es' hH
    obtain ⟨a',cap,hv,hcap,hor⟩:=hxe.2.2 l hl
    have hlen : ((es'.drop st).take n ++ src).length = n + src.length:=by simp; omega
    by_cases hroom : n + src.length ≤ cap
    · -- there is room
      cases a' with
      | none =>
        have hc0 : cap = 0:=by
          rcases hor with h | ⟨h,_⟩
          · exact h
          · simp at h
        have hn0 : n = 0:=by omega
        have hm0 : src.length = 0:=by omega
        have hsrc0 : src = []:=List.eq_nil_of_length_eq_zero hm0
        subst hn0 hc0
        rw [hm0] at hS
        have hr:=app_room_none (P:=P) (w:=w) (t:=t) (ty:=type) hel' hi hS 0
        rw [← hv] at hr
        have hcut:=HR.cut hs.hr hH st
        obtain ⟨hmv,hmon⟩:=HR.move hcut (hupd_eq _ _ _) hl hnx (bornB_succ s.nx) st
        refine ⟨_,w,_,hrunE _ _ hr,?_,hmon,KeepF.move hs.hr (by rw [hH]; simp) hnx _,?_⟩
        · have e : (es'.take st).drop st = (es'.drop st).take 0 ++ src:=by rw [hsrc0,List.drop_take]; simp
          rw [e,hupd_same] at hmv
          exact hmv
        · rw [hlen,hm0]
          refine ⟨by simp [bornB],⟨_,_,_,hv⟩,fun l' hl'=>⟨none,0,hv,Nat.le_refl _,.inl rfl⟩⟩
      | some base =>
        obtain ⟨hz',c',elem,hg,vss,hvv,hcell⟩:=hbr
        have hr:=app_room (P:=P) (w:=w) (t:=t) (ty:=type) hel' hi hzz hS base n cap hroom
        by_cases hz0 : cap = 0
        · have hn0 : n = 0:=by omega
          have hm0 : src.length = 0:=by omega
          have hsrc0 : src = []:=List.eq_nil_of_length_eq_zero hm0
          have hvn : vssN = []:=List.eq_nil_of_length_eq_zero (by omega)
          subst hn0 hz0
          rw [hvn] at hr
          simp only [List.flatten_nil,storeCells,Sem.run_pure,Result.andThen_ok] at hr
          rw [← hv] at hr
          have hcut:=HR.cut hs.hr hH st
          obtain ⟨hmv,hmon⟩:=HR.move hcut (hupd_eq _ _ _) hl hnx (bornB_succ s.nx) st
          refine ⟨_,w,_,hrunE _ _ hr,?_,hmon,KeepF.move hs.hr (by rw [hH]; simp) hnx _,?_⟩
          · have e : (es'.take st).drop st = (es'.drop st).take 0 ++ src:=by rw [hsrc0,List.drop_take]; simp
            rw [e,hupd_same] at hmv
            exact hmv
          · rw [hlen,hm0]
            refine ⟨by simp [bornB],⟨_,_,_,rfl⟩,fun l' hl'=>⟨some base,0,rfl,Nat.le_refl _,.inl rfl⟩⟩
        · rcases hor with h | ⟨hbase,e,k,hsh,hfit⟩
          · exact absurd h hz0
          simp only [Option.some.injEq] at hbase
          subst hbase
          have hek : k = c'.size:=by
            unfold World.shape? at hsh
            rw [hg] at hsh
            simp only [Option.some.injEq,Prod.mk.injEq] at hsh
            exact hsh.2.symm
          have hel2 : e = elem:=by
            unfold World.shape? at hsh
            rw [hg] at hsh
            simp only [Option.some.injEq,Prod.mk.injEq] at hsh
            exact hsh.1.symm
          subst hek hel2
          rw [add_off] at hr
          have hfit2 : l.o + st * l.z + n * i.size + vssN.flatten.length ≤ c'.size:=by
            rw [hflN]
            have : (n + src.length) * l.z ≤ cap * l.z:=Nat.mul_le_mul_right _ hroom
            rw [Nat.add_mul] at this hfit
            rw [← d1,← hz'] at *
            omega
          have hst:=run_storeCells_at P l.g (l.o + st * l.z + n * i.size) e vssN.flatten 0 c' w hg (by simpa using hfit2) honeN
          simp only [Nat.add_zero] at hst
          rw [hst] at hr
          simp only [Result.andThen_ok] at hr
          rw [← hv] at hr
          have hpos : l.o + st * l.z + n * i.size = l.o + (st + n) * z':=by rw [Nat.add_mul,← d1,hz']; omega
          have hspl : c'.toList.take (l.o + st * l.z + n * i.size) ++ vssN.flatten ++ c'.toList.drop (l.o + st * l.z + n * i.size + vssN.flatten.length) = splice c'.toList (l.o + (st + n) * z') vssN.flatten:=by
            rw [hpos]; rfl
          rw [hspl] at hr
          have hfit3 : l.o + (st + n) * z' + vssN.flatten.length ≤ c'.toList.length:=by rw [← hpos]; simpa using hfit2
          have hsz : (splice c'.toList (l.o + (st + n) * z') vssN.flatten).toArray.size = c'.size:=by
            simp only [List.size_toArray]
            rw [splice_length hfit3]; simp
          have hlv:=VRLL.length _ _ hvv
          have hset:=HR.setRow hs.hr (id:=id) (by rw [hH]; simp) hl hg hsz z' (es'.take (st + n) ++ src) (vss.take (st + n) ++ vssN) hz' (VRLL.append _ _ _ _ (VRLL.take _ _ _ hvv) hvN) (fun e' vs he'=>by
            have htl : (vss.take (st + n)).length = st + n:=by simp; omega
            rcases Nat.lt_or_ge e' (st + n) with hlt | hge
            · rw [List.getElem?_append_left (by omega),List.getElem?_take,if_pos hlt] at he'
              obtain ⟨h1,h2⟩:=hcell e' vs he'
              refine ⟨h1,fun j u hu=>?_⟩
              have hj : j < z':=by
                rcases Nat.lt_or_ge j vs.length with h' | h'
                · omega
                · rw [List.getElem?_eq_none h'] at hu; simp at hu
              simp only [List.getElem?_toArray]
              rw [splice_out hfit3]
              · have:=h2 j u hu; simpa using this
              · left
                have:=Nat.mul_le_mul_right z' (show e' + 1 ≤ st + n by omega)
                rw [Nat.add_mul] at this; omega
            · rw [List.getElem?_append_right (by omega),htl] at he'
              have h1:=hlN vs (List.mem_of_getElem? he')
              refine ⟨by rw [h1,d1],fun j u hu=>?_⟩
              have hj : j < i.size:=by
                rcases Nat.lt_or_ge j vs.length with h' | h'
                · omega
                · rw [List.getElem?_eq_none h'] at hu; simp at hu
              have hfg:=flat_get vssN hlN (e' - (st + n)) vs j he' hj
              rw [hu] at hfg
              have hin : (e' - (st + n)) * i.size + j < vssN.flatten.length:=by
                rcases Nat.lt_or_ge ((e' - (st + n)) * i.size + j) vssN.flatten.length with h' | h'
                · exact h'
                · rw [List.getElem?_eq_none h'] at hfg; simp at hfg
              have:=splice_in (l:=c'.toList) (off:=l.o + (st + n) * z') (vs:=vssN.flatten) hfit3 (j:=(e' - (st + n)) * i.size + j) hin
              simp only [List.getElem?_toArray]
              rw [show l.o + e' * z' + j = l.o + (st + n) * z' + ((e' - (st + n)) * i.size + j) by
                have : e' * z' = (st + n) * z' + (e' - (st + n)) * z':=by rw [← Nat.add_mul]; congr 1; omega
                rw [this,d1]; omega]
              rw [this]; exact hfg)
          have hmon1 : Mon w β (bornB s.nx) (w.setRow l.g (splice c'.toList (l.o + (st + n) * z') vssN.flatten).toArray) β (bornB s.nx):=Mon.setRow hl hg hsz
          obtain ⟨hmv,hmon⟩:=HR.move hset (hupd_eq _ _ _) hl hnx (bornB_succ s.nx) st
          refine ⟨_,_,_,hrunE _ _ hr,?_,hmon1.trans hmon,KeepF.move hs.hr (by rw [hH]; simp) hnx _,?_⟩
          · have e1 : (es'.take (st + n) ++ src).drop st = (es'.drop st).take n ++ src:=by
              rw [List.drop_append_of_le_length (by simp; omega),List.drop_take]
              congr 2; omega
            rw [e1,hupd_same] at hmv
            exact hmv
          · rw [hlen]
            refine ⟨by simp [bornB],⟨_,_,_,rfl⟩,fun l' hl'=>?_⟩
            simp only [bupd,if_true,Option.some.injEq] at hl'
            subst hl'
            refine ⟨_,cap,rfl,hroom,.inr ⟨by simp,e,c'.size,hmon1.shape _ _ hsh,?_⟩⟩
            simp only [Nat.zero_add]
            rw [Nat.add_mul] at hfit
            omega
    · -- a new row
      have hz' : l.z = z':=hbr.1
      obtain ⟨vssO,k1,k2,k3⟩:=own_cells hbr (a:=a') hcap (by omega) d2 hor
      have hlO:=VRLL.length _ _ k1
      have hlO' : vssO.length = n:=by rw [hlO]; simp; omega
      have hflO : vssO.flatten.length = n * i.size:=by rw [flat_len _ k2,hlO',d1]
      obtain ⟨cap',rest,g1,g2,hr⟩:=app_grow (P:=P) (w:=w) (t:=t) (ty:=type) hel' hi hzz hS a' n cap vssO.flatten hflO k3 (by omega) d3 d4
      rw [← hv] at hr
      have hh1:=hs.hr.drew
      have hh2:=HR.drop hh1 id
      have hlay : LaidZ (vssO.flatten ++ vssN.flatten ++ rest).toArray z' (vssO ++ vssN):=by
        refine laid_of_flat (fun v hv=>?_) ?_
        · rcases List.mem_append.mp hv with h' | h'
          · exact k2 v h'
          · rw [hlN v h',d1]
        · rw [List.flatten_append]
          exact List.take_left
      have hva : VRLL w.drew (bupd β id none) (bornB s.nx) ((es'.drop st).take n ++ src) (vssO ++ vssN):=VRLL.mon ((Mon.drew).trans (Mon.drop hh1 id)) _ _ (VRLL.append _ _ _ _ k1 hvN)
      have hh3:=HR.alloc hh2 hnx (bornB_succ s.nx) (vssO.flatten ++ vssN.flatten ++ rest).toArray el z' _ _ hva hlay
      have hm3:=Mon.alloc hh2 hnx (bornB_succ s.nx) (.cells (vssO.flatten ++ vssN.flatten ++ rest).toArray el) z' 0
      refine ⟨_,_,_,hrunE _ _ hr,hh3,((Mon.drew).trans (Mon.drop hh1 id)).trans hm3,?_,?_⟩
      · intro q lq hq hg'
        have h1 : q ≠ s.nx:=by intro e; subst e; have:=(hs.hr.dom _ lq hq).2.2; rw [hnx] at this; simp at this
        have h2 : q ≠ id:=by intro e; subst e; have:=(hs.hr.dom _ lq hq).1 (by rw [hH]; simp); omega
        simp [bupd,h1,h2,hq]
      · rw [hlen]
        refine ⟨by simp [bornB],⟨_,_,_,rfl⟩,fun l' hl'=>?_⟩
        simp only [bupd,if_true,Option.some.injEq] at hl'
        subst hl'
        refine ⟨_,cap',rfl,g1,.inr ⟨by simp,el,_,shape_new _ _ _,?_⟩⟩
        simp only [List.size_toArray,List.length_append,hflO,hflN,g2,hzl,Nat.zero_add,d1]
        rw [← Nat.add_mul,← Nat.add_mul]
        exact Nat.mul_le_mul_right _ (by omega)
  · rename_i hx
    rw [hx] at hxe
    split at h
    case isFalse=>simp at h
    rename_i hcc
    obtain ⟨d1,d2,d3⟩:=hcc
    simp only [Option.some.injEq,Prod.mk.injEq] at h
    obtain ⟨rfl,rfl,rfl⟩:=h
    have hv : a.eval x = .slice none 0 0:=hxe
    have hpos : 0 < src.length:=by cases src with
      | nil=>simp at d1
      | cons c r=>simp
    obtain ⟨cap',rest,g1,g2,hr⟩:=app_grow (P:=P) (w:=w) (t:=t) (ty:=type) hel' hi hzz hS none 0 0 [] (by simp) (by simp) (by omega) (by simpa using d2) (by omega)
    rw [← hv] at hr
    simp only [List.nil_append,Nat.zero_add] at hr g1 g2
    have hh1:=hs.hr.drew
    have hlay : LaidZ (vssN.flatten ++ rest).toArray i.size vssN:=laid_of_flat hlN (by exact List.take_left)
    have hh3:=HR.alloc hh1 hnx (bornB_succ s.nx) (vssN.flatten ++ rest).toArray el i.size _ _ (VRLL.mon Mon.drew _ _ hvN) hlay
    have hm3:=Mon.alloc hh1 hnx (bornB_succ s.nx) (.cells (vssN.flatten ++ rest).toArray el) i.size 0
    refine ⟨_,_,_,hrunE _ _ hr,hh3,(Mon.drew).trans hm3,?_,?_⟩
    · intro q lq hq hg'
      have h1 : q ≠ s.nx:=by intro e; subst e; have:=(hs.hr.dom _ lq hq).2.2; rw [hnx] at this; simp at this
      simp [bupd,h1,hq]
    · refine ⟨by simp [bornB],⟨_,_,_,rfl⟩,fun l' hl'=>?_⟩
      simp only [bupd,if_true,Option.some.injEq] at hl'
      subst hl'
      refine ⟨_,cap',rfl,g1,.inr ⟨by simp,el,_,shape_new _ _ _,?_⟩⟩
      simp only [List.size_toArray,List.length_append,hflN,g2,hzl,Nat.zero_add]
      rw [← Nat.add_mul]
      exact Nat.mul_le_mul_right _ (by omega)
  · simp at h
end

section
variable {P : Program} {ops : Array Oper} {K : St → Prop} {s : St} {o : Oper} {rest : List Oper}
theorem AOPS.opapp {d : Option Nat} {z : Nat} {es : List (List AV)} (h1 : opApp P s o.op = some (d,z,es)) (hg : agd ops s o = some true) (hd : dstOk s o.dst = true)
    (h : AOPS P ops rest K (puts { s with heap:=hupd (hdrop s.heap d) s.nx (some (z,es)),nx:=s.nx + 1 } o.dst (.osl s.nx 0 es.length))) : AOPS P ops (o :: rest) K s:=by
  intro w0 w β a Q hs hq
  refine wpList_step fun K' hK=>?_
  rw [agd_ok hs hg,if_pos rfl]
  obtain ⟨v,w',β',hrun,hh,hm,hk,hv⟩:=opApp_ok hs h1
  have hs1 : SR w0 w' β' { s with heap:=hupd (hdrop s.heap d) s.nx (some (z,es)),nx:=s.nx + 1 } a:=⟨hh,hs.defers,hs.size,fun t=>VR.mon hm _ _ (hs.env t)⟩
  unfold Oper.wp
  rw [hrun]
  refine hK _ _ (h w0 _ _ _ Q (hs1.put hv (by cases hd' : o.dst with | none=>rfl | some t=>simpa [dstOk,hd'] using hd)) fun w'' β'' a' s' k hs' hm'=>hq w'' β'' a' s' k hs' ?_)
  unfold MonS at *
  rw [puts_nx] at hm'
  exact ⟨hm.trans hm'.1,hk.trans hm'.2⟩
end
end Go.Proofs.YtjbbbkfdcegfmaaGreat
