/- Stores; the rules for operations that make or write blocks. -/
import Derived.Test.YtjbbbkfdcegfmaaGreatG09

namespace Go.Proofs.YtjbbbkfdcegfmaaGreat
open Go Go.RowKit

/-- A store into a block of one's own. -/
def opSto (P : Program) (s : St) (op : Op) : Option Heap :=
  match op with
  | .store t x y=>match ev s.env x with
    | .ptr id e off=>match s.heap id,avCells (ev s.env y) with
      | some (z,es),some cs=>match es[e]? with
        | some cells=>if szOf P t = some cs.length ∧ cs.length ≠ 0 ∧ off + cs.length ≤ cells.length ∧ cs.all avOne = true then some (hupd s.heap id (some (z,es.set e (splice cells off cs)))) else none
        | none=>none
      | _,_=>none
    | _=>none
  | _=>none

section
variable {P : Program} {w0 w : World} {β : Nat → Option Loc} {s : St} {a : Act}

theorem opSto_ok {b : Nat → Bool} (hs : SRb w0 w β b s a) {o : Oper} {H : Heap} (h : opSto P s o.op = some H) : ∃ w',(execOp a.eval o).run P w = .ok .skip w' ∧ Mon w β b w' β b ∧ HR w0 w' β b H:=by
  obtain ⟨dst,op,type,pos,after,guard⟩:=o
  simp only [] at h
  cases op <;> simp only [opSto,reduceCtorEq] at h
  case store t x y =>
    split at h
    case h_2=>simp at h
    rename_i id e off hx
    split at h
    case h_2=>simp at h
    rename_i z es cs hz hcs
    split at h
    case h_2=>simp at h
    rename_i cells hce
    split at h
    case isFalse=>simp at h
    rename_i hc
    obtain ⟨c1,c2,c3,c4⟩:=hc
    simp only [Option.some.injEq] at h; subst h
    have hxe:=ev_ok hs x
    rw [hx] at hxe
    obtain ⟨l,hl,hzz,c,elem,hg,vss,hvl,hcell⟩:=hs.hr.blk id z es hz
    have hv:=hxe.2.2 l hl
    have hye:=avCells_ok (ev_ok hs y) hcs
    have hone:=avOnes_ok hye c4
    have hly:=VRL.length _ _ hye
    obtain ⟨vs,hvs,hrow⟩:=VRLL.get _ _ e cells hvl hce
    obtain ⟨hvz,hvj⟩:=hcell e vs hvs
    have hlv:=VRL.length _ _ hrow
    have hin : l.o + e * z + z ≤ c.size:=by
      have h1:=hvj (z - 1) (vs[z - 1]'(by omega)) (by rw [List.getElem?_eq_getElem])
      have : l.o + e * z + (z - 1) < c.size:=by
        rcases Nat.lt_or_ge (l.o + e * z + (z - 1)) c.size with h' | h'
        · exact h'
        · rw [Array.getElem?_eq_none h'] at h1; simp at h1
      omega
    have hfit : l.o + e * z + off + (a.eval y).cells.toList.length ≤ c.size:=by omega
    have hst:=run_storeCells_at P l.g (l.o + e * z + off) elem (a.eval y).cells.toList 0 c w hg (by simpa using hfit) hone
    simp only [Nat.add_zero] at hst
    have hsz : (splice c.toList (l.o + e * z + off) (a.eval y).cells.toList).length = c.size:=by rw [splice_length (by simpa using hfit)]; simp
    have hm : Mon w β b (w.setRow l.g (splice c.toList (l.o + e * z + off) (a.eval y).cells.toList).toArray) β b:=Mon.setRow hl hg (by simpa using hsz)
    refine ⟨w.setRow l.g (splice c.toList (l.o + e * z + off) (a.eval y).cells.toList).toArray,?_,hm,?_⟩
    · simp only [execOp,Instr.storeAt,hv,Instr.sureAddr,Sem.run_bind,Sem.run_pure,Result.andThen_ok,storeVar,run_szOf c1]
      rw [if_neg (by simp at hly ⊢; exact hly)]
      rw [← hzz] at hst
      simp only [splice,hst,← hzz,Result.andThen_ok]
    · refine HR.setRow hs.hr (by rw [hz]; simp) hl hg (by simpa using hsz) z _ (vss.set e (splice vs off (a.eval y).cells.toList)) hzz (VRLL.set e _ _ _ _ hvl (VRL.splice hrow hye off)) ?_
      intro e' vs' he'
      have hsl : (splice vs off (a.eval y).cells.toList).length = vs.length:=splice_length (by omega)
      by_cases hee : e' = e
      · subst hee
        rw [List.getElem?_set_self (by
          rcases Nat.lt_or_ge e' vss.length with h' | h'
          · exact h'
          · rw [List.getElem?_eq_none h'] at hvs; simp at hvs)] at he'
        simp only [Option.some.injEq] at he'; subst he'
        refine ⟨by rw [hsl]; exact hvz,fun j u hu=>?_⟩
        have hjl : j < vs.length:=by
          rcases Nat.lt_or_ge j vs.length with h' | h'
          · exact h'
          · rw [List.getElem?_eq_none (by omega)] at hu; simp at hu
        simp only [List.getElem?_toArray]
        by_cases hj : off ≤ j ∧ j < off + (a.eval y).cells.toList.length
        · have e1:=splice_in (l:=vs) (off:=off) (vs:=(a.eval y).cells.toList) (by omega) (j:=j - off) (by omega)
          rw [show off + (j - off) = j by omega] at e1
          rw [e1] at hu
          have e2:=splice_in (l:=c.toList) (off:=l.o + e' * z + off) (vs:=(a.eval y).cells.toList) (by simpa using hfit) (j:=j - off) (by omega)
          rw [show l.o + e' * z + off + (j - off) = l.o + e' * z + j by omega] at e2
          rw [e2]; exact hu
        · have e1:=splice_out (l:=vs) (off:=off) (vs:=(a.eval y).cells.toList) (by omega) (k:=j) (by omega)
          rw [e1] at hu
          rw [splice_out (by simpa using hfit) (by omega)]
          have:=hvj j u hu
          simpa using this
      · rw [List.getElem?_set_ne (Ne.symm hee)] at he'
        obtain ⟨h1,h2⟩:=hcell e' vs' he'
        refine ⟨h1,fun j u hu=>?_⟩
        have hjl : j < z:=by
          rcases Nat.lt_or_ge j vs'.length with h' | h'
          · omega
          · rw [List.getElem?_eq_none h'] at hu; simp at hu
        simp only [List.getElem?_toArray]
        rw [splice_out (by simpa using hfit)]
        · have:=h2 j u hu
          simpa using this
        · rcases Nat.lt_or_ge e' e with h' | h'
          · left
            have:=Nat.mul_le_mul_right z (show e' + 1 ≤ e by omega)
            rw [Nat.add_mul] at this; omega
          · right
            have:=Nat.mul_le_mul_right z (show e + 1 ≤ e' by omega)
            rw [Nat.add_mul] at this; omega
end

section
variable {P : Program} {ops : Array Oper} {K : St → Prop} {s : St} {o : Oper} {rest : List Oper}

theorem AOPS.opval (r : AV) (h1 : opVal P s o.op = some r) (hg : agd ops s o = some true) (hd : dstOk s o.dst = true) (h : AOPS P ops rest K (puts s o.dst r)) : AOPS P ops (o :: rest) K s :=
  AOPS.val r (fun _ _ _ _ hs=>opVal_ok hs h1) hg hd h

theorem bornB_succ (n : Nat) : ∀ i,bornB (n + 1) i = (decide (i = n) || bornB n i):=by
  intro i; simp only [bornB]
  by_cases h : i = n
  · subst h; simp
  · have : (i < n + 1) ↔ (i < n):=by omega
    simp [h,this]

theorem AOPS.opnew (r : AV) (z : Nat) (es : List (List AV)) (h1 : opNew P s.env s.nx o.op = some (r,z,es)) (hg : agd ops s o = some true) (hd : dstOk s o.dst = true)
    (h : AOPS P ops rest K (puts { s with heap:=hupd s.heap s.nx (some (z,es)),nx:=s.nx + 1 } o.dst r)) : AOPS P ops (o :: rest) K s:=by
  intro w0 w β a Q hs hq
  refine wpList_step fun K' hK=>?_
  rw [agd_ok hs hg,if_pos rfl]
  obtain ⟨v,c,elem,vss,hrun,hv,hlaid,hr⟩:=opNew_run (P:=P) (w:=w) (β:=β) (b:=bornB s.nx) (ev_ok hs) h1
  have hb : bornB s.nx s.nx = false:=by simp [bornB]
  have hm:=Mon.alloc hs.hr hb (bornB_succ s.nx) (.cells c elem) z 0
  have hh:=HR.alloc hs.hr hb (bornB_succ s.nx) c elem z es vss hv hlaid
  have hs1 : SR w0 (w.alloc (.cells c elem)) (bupd β s.nx (some ⟨w.heap.size,0,z⟩)) { s with heap:=hupd s.heap s.nx (some (z,es)),nx:=s.nx + 1 } a :=
    ⟨hh,hs.defers,hs.size,fun t=>VR.mon hm _ _ (hs.env t)⟩
  have hx:=hr (bupd β s.nx (some ⟨w.heap.size,0,z⟩)) (bornB (s.nx + 1)) (by simp [bupd]) (by simp [bornB])
  unfold Oper.wp
  rw [hrun]
  refine hK _ _ (h w0 _ _ _ Q (hs1.put hx (by cases hd' : o.dst with | none=>rfl | some t=>simpa [dstOk,hd'] using hd)) fun w' β' a' s' k hs' hm'=>hq w' β' a' s' k hs' ?_)
  unfold MonS at *
  rw [puts_nx] at hm'
  refine ⟨hm.trans hm'.1,KeepF.trans (fun id l hl _=>?_) hm'.2⟩
  unfold bupd
  rw [if_neg (by intro e; subst e; have:=(hs.hr.dom _ l hl).2.2; simp [bornB] at this)]; exact hl

theorem AOPS.opsto (H : Heap) (h1 : opSto P s o.op = some H) (hg : agd ops s o = some true) (hd : o.dst = none) (h : AOPS P ops rest K { s with heap:=H }) : AOPS P ops (o :: rest) K s:=by
  intro w0 w β a Q hs hq
  refine wpList_step fun K' hK=>?_
  rw [agd_ok hs hg,if_pos rfl]
  obtain ⟨w',hrun,hm,hh⟩:=opSto_ok hs h1
  have hs1 : SR w0 w' β { s with heap:=H } a:=⟨hh,hs.defers,hs.size,fun t=>VR.mon hm _ _ (hs.env t)⟩
  unfold Oper.wp
  rw [hrun,Oper.upon_skip,hd]
  refine hK _ _ (h w0 _ _ _ Q hs1 fun w'' β' a' s' k hs' hm'=>hq w'' β' a' s' k hs' ?_)
  exact ⟨hm.trans hm'.1,hm'.2⟩
end
end Go.Proofs.YtjbbbkfdcegfmaaGreat
