/- The rules in short forms: what is found by rote stands as a last argument that need not be written. -/
import Derived.Test.YtjbbbkfdcegfmaaGreatG0V

namespace Go.Proofs.YtjbbbkfdcegfmaaGreat
open Go Go.RowKit

section
variable {P : Program} {K : Exit → St → Prop} {s s' : St} {y : Code} {id : Nat} {l : List Oper}
theorem AWP.sq {x y : Code} (h : ∀ K' : St → Prop,(∀ s',AWP P y K s' → K' s') → AWP P x (ASeq K' K) s) : AWP P (.seq x y) K s:=AWP.seqk h
theorem AWP.r (h : K .normal s') (h1 : runOps P l.toArray l s = some s':=by simp (disch:=first|omega|(simp only[ln];omega)); rfl) : AWP P (.region id l.toArray false) K s :=
  AWP.region (AOPS.all h1 h)
theorem AWP.q (h : AWP P y K s') (h1 : runOps P l.toArray l s = some s':=by simp (disch:=first|omega|(simp only[ln];omega)); rfl) : AWP P (.seq (.region id l.toArray false) y) K s :=
  AWP.sr h1 h
theorem AWP.c {t : Bool} {c : Operand} {x y : Code} (h1 : t = true → AWP P x K s) (h2 : t = false → AWP P y K s) (hc : ev s.env c = .bool t:=by simp (disch:=first|omega|(simp only[ln];omega)) <;> rfl) : AWP P (.cond c x y) K s :=
  cond_ok t hc h1 h2
theorem AWP.df (m : Nat) (h : K .normal s') (h1 : runDf P l.toArray m s = some s':=by simp (disch:=first|omega|(simp only[ln];omega)) [runDf.eq_def,runF1,runF2,stepF.eq_def,updo.eq_def,hupo.eq_def,opSto1.eq_def]; rfl)
    (hm : P.follows .mixedOrders = true:=by exact mixT) (hc : (drawOk l.toArray m && fullOk l.toArray m && decide (m ≤ l.toArray.size)) = true:=by kernel_rfl) : AWP P (.region id l.toArray true) K s :=
  AWP.drawF m hm hc h1 h
/-- Is a list what it is told? -/
theorem AWP.d (m : Nat) {l1 l2 : List Oper} (h : DP P l.toArray s l1 0 s.env s.heap fun e H fs=>DQ P l.toArray s fs l2 { s with env:=e,heap:=H } fun s'=>K .normal { s' with nx:=s.nx + l.toArray.size })
    (h1 : l.take m = l1:=by simp only [List.take_succ_cons,List.take_zero]; rfl) (h2 : l.drop m = l2:=by simp only [List.drop_succ_cons,List.drop_zero]; rfl) (hm : P.follows .mixedOrders = true:=by exact mixT) (hc : drawOk l.toArray m = true:=by kernel_rfl) (hs : m ≤ l.toArray.size:=by simp) : AWP P (.region id l.toArray true) K s:=by
  refine AWP.draw m hm hc hs ?_
  show DP P l.toArray s (l.take m) 0 s.env s.heap fun e H fs=>DQ P l.toArray s fs (l.drop m) { s with env:=e,heap:=H } fun s'=>K .normal { s' with nx:=s.nx + l.toArray.size }
  rw [h1,h2]; exact h
end

section
variable {P : Program} {ops : Array Oper} {K : St → Prop} {s s' : St} {o : Oper} {l rest : List Oper}
theorem AOPS.e (h : K s') (h1 : runOps P ops l s = some s':=by simp (disch:=first|omega|(simp only[ln];omega)); rfl) : AOPS P ops l K s:=AOPS.all h1 h
theorem AOPS.k (k : Nat) (h : AOPS P ops rest K s') (h1 : runOps P ops (l.take k) s = some s':=by simp (disch:=first|omega|(simp only[ln];omega)) [List.take_succ_cons,List.take_zero]; rfl) (h2 : l.drop k = rest:=by simp only [List.drop_succ_cons,List.drop_zero]; rfl) : AOPS P ops l K s :=
  AOPS.runk k h1 (by rw [h2]; exact h)
theorem AOPS.f {f : FuncId} {c : Call} {x : Operand} {cps args : List AV} {r : AV} {t : Nat} (h1 : FC P f args r) (hb : hasBody P f = true) (h : AOPS P ops rest K { s with env:=upd s.env t r })
    (ho : o.op = .call c:=by rfl) (hc : c.callee = .value x:=by rfl) (hx : ev s.env x = .fn f cps:=by rfl) (hd : o.dst = some t:=by rfl)
    (ha : (c.args.toList.map (ev s.env) ++ cps = args ∧ agd ops s o = some true) ∧ dstOk s o.dst = true:=by simp (disch:=first|omega|(simp only[ln];omega)) [idf_Wd']) : AOPS P ops (o :: rest) K s :=
  AOPS.fcall h1 ho hc hx hb ha.1.1 ha.1.2 ha.2 (by rw [hd]; exact h)
theorem AOPS.kf (k : Nat) {f : FuncId} {c : Call} {x : Operand} {cps args : List AV} {r : AV} {t : Nat} (h1 : FC P f args r) (hb : hasBody P f = true) (h : AOPS P ops rest K { s' with env:=upd s'.env t r })
    (hr : runOps P ops (l.take k) s = some s':=by simp (disch:=first|omega|(simp only[ln];omega)) [List.take_succ_cons,List.take_zero]; rfl) (hl : l.drop k = o :: rest:=by simp only [List.drop_succ_cons,List.drop_zero]; rfl)
    (ho : o.op = .call c:=by rfl) (hc : c.callee = .value x:=by rfl) (hx : ev s'.env x = .fn f cps:=by rfl) (hd : o.dst = some t:=by rfl)
    (ha : (c.args.toList.map (ev s'.env) ++ cps = args ∧ agd ops s' o = some true) ∧ dstOk s' o.dst = true:=by simp (disch:=first|omega|(simp only[ln];omega)) [idf_Wd']) : AOPS P ops l K s :=
  AOPS.runk k hr (by rw [hl]; exact AOPS.f h1 hb h ho hc hx hd ha)
theorem AOPS.a {f : FuncId} {c : Call} {x : Operand} {cps args : List AV} {Q' : AV → Heap → Nat → Prop} {t : Nat} (h1 : ACall P f args s.heap s.nx Q') (hb : hasBody P f = true) (h : ∀ r H nx,Q' r H nx → AOPS P ops rest K { s with env:=upd s.env t r,heap:=H,nx:=nx })
    (ho : o.op = .call c:=by rfl) (hc : c.callee = .value x:=by rfl) (hx : ev s.env x = .fn f cps:=by rfl) (hd : o.dst = some t:=by rfl)
    (ha : (c.args.toList.map (ev s.env) ++ cps = args ∧ agd ops s o = some true) ∧ dstOk s o.dst = true:=by simp (disch:=first|omega|(simp only[ln];omega)) [idf_Wd']) : AOPS P ops (o :: rest) K s :=
  AOPS.acall h1 ho hc hx hb ha.1.1 ha.1.2 ha.2 (by rw [hd]; exact h)
theorem AOPS.en {f : FuncId} {c : Call} {x : Operand} {cps args : List AV} {r : AV} {t : Nat} (h1 : FE P f args r) (h : AOPS P ops rest K { s with env:=upd s.env t r })
    (ho : o.op = .call c:=by rfl) (hc : c.callee = .value x:=by rfl) (hx : ev s.env x = .fn f cps:=by rfl) (hd : o.dst = some t:=by rfl)
    (ha : (c.args.toList.map (ev s.env) ++ cps = args ∧ agd ops s o = some true) ∧ dstOk s o.dst = true:=by simp (disch:=first|omega|(simp only[ln];omega)) [idf_Wd']) : AOPS P ops (o :: rest) K s :=
  AOPS.ecall h1 ho hc hx ha.1.1 ha.1.2 ha.2 (by rw [hd]; exact h)
end

section
variable {P : Program} {ops : Array Oper} {s t' : St} {o : Oper} {l rest : List Oper} {i : Nat} {e : Nat → AV} {H : Heap} {KK : (Nat → AV) → Heap → List Ef → Prop}
theorem DP.k (k : Nat) (h : ∀ fs : List Ef,fs.length = k → DP P ops s rest (i + k) t'.env t'.heap fun e'' H'' g=>KK e'' H'' (fs ++ g))
    (h1 : runF1 P ops (l.take k) i { s with env:=e,heap:=H } = some t':=by simp (disch:=first|omega|(simp only[ln];omega)) [runDf.eq_def,runF1,runF2,stepF.eq_def,updo.eq_def,hupo.eq_def,opSto1.eq_def,List.take_succ_cons,List.take_zero]; rfl)
    (h2 : l.drop k = rest:=by simp only [List.drop_succ_cons,List.drop_zero]; rfl) (hk : (l.take k).length = k:=by rfl) : DP P ops s l i e H KK :=
  DP.runFk k h1 fun fs hfs=>by rw [h2,hk]; exact h fs (hfs.trans hk)
theorem DP.f {f : FuncId} {c : Call} {x : Operand} {cps args : List AV} {v : AV} {t : Nat} (h1 : FC P f args v) (hb : hasBody P f = true) (h : DP P ops s rest (i + 1) (upd e t v) H fun e' H' l=>KK e' H' (⟨v,none,qids e o⟩ :: l))
    (ho : o.op = .call c:=by rfl) (hc : c.callee = .value x:=by rfl) (hx : ev e x = .fn f cps:=by rfl) (hd : o.dst = some t:=by rfl)
    (ha : (c.args.toList.map (ev e) ++ cps = args ∧ agd ops { s with env:=e } o = some true) ∧ dstOk s o.dst = true:=by simp (disch:=first|omega|(simp only[ln];omega)) [idf_Wd']) : DP P ops s (o :: rest) i e H KK :=
  DP.fcall h1 ho hc hx hb ha.1.1 ha.1.2 ha.2 (by rw [hd]; exact h)
theorem DQ.r {lp : List Ef} {K : St → Prop} {os : List Oper} {t tt : St} (m : Nat) (hl : lp.length ≤ m) (h : K tt) (h1 : runF2 P os t = some tt:=by simp (disch:=first|omega|(simp only[ln];omega)) [runDf.eq_def,runF1,runF2,stepF.eq_def,updo.eq_def,hupo.eq_def,opSto1.eq_def]; rfl)
    (hf : (os.all fun o=>isAsg o.op || (List.range m).all fun j=>(pre o).contains j) = true:=by kernel_rfl) (hn : t.nt = s.nt:=by rfl) : DQ P ops s lp os t K :=
  DQ.runF hl os t tt hf hn h1 h
end

section
variable {P : Program} {f : FuncId} {fn : Func} {c : Code} {args : List AV} {s : St}
theorem FC.b {r : AV} (hf : P.funcs[f]? = some fn) (nt : Nat) (h : ∀ (nx : Nat) (K : Exit → St → Prop),(∀ e s H' nx',isEnd e → Fin P fn s r H' nx' → K e s) → AWP P c K { env:=lst args,heap:=fun _=>none,nx:=nx,nt:=nt })
    (hi : idfL args:=by simp [idfL,idf,idfLL_iff]) (hr : idf r:=by simp [idfL,idf,idfLL_iff]) (hb : fn.body = some c:=by rfl) (hn : args.length + (fn.ntmps - args.length) = nt:=by rfl) : FC P f args r :=
  FC.body hf hb hi hr nt hn h
theorem ACall.b {H : Heap} {nx : Nat} {Q : AV → Heap → Nat → Prop} (hf : P.funcs[f]? = some fn) (nt : Nat) (h : ∀ (K : Exit → St → Prop),(∀ e s r H' nx',isEnd e → Fin P fn s r H' nx' → Q r H' nx' → K e s) → AWP P c K { env:=lst args,heap:=H,nx:=nx,nt:=nt })
    (hb : fn.body = some c:=by rfl) (hn : args.length + (fn.ntmps - args.length) = nt:=by rfl) : ACall P f args H nx Q :=
  ACall.body hf hb nt hn h
theorem Fin.m {r : AV} (h : aRes P s fn.results.toList = some r:=by simp [aRes,aResL,aRes1]; try rfl) : Fin P fn s r s.heap s.nx:=Fin.mk h
theorem Fin.o {r : AV} (h : aRes P s fn.results.toList = some r:=by simp (disch:=omega) [aRes,aResL,aRes1]; rfl) : Fin P fn s r s.heap s.nx:=Fin.mk h
end
end Go.Proofs.YtjbbbkfdcegfmaaGreat
