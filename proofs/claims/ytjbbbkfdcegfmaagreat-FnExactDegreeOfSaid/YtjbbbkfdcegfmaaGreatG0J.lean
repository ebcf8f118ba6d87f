/- Drawing regions, run by one function. -/
import Derived.Test.YtjbbbkfdcegfmaaGreatG0I

namespace Go.Proofs.YtjbbbkfdcegfmaaGreat
open Go Go.RowKit

/-- One operation ahead of the stores, none a call of a function. -/
def d1Op (P : Program) (ops : Array Oper) (s : St) (i : Nat) (e : Nat → AV) (H : Heap) (o : Oper) : Option Ef :=
  match agd ops { s with env:=e } o with
  | some false=>some ⟨.tup [],none,qids e o⟩
  | some true=>match opVal P { s with env:=e,heap:=H } o.op with
    | some v=>some ⟨v,none,qids e o⟩
    | none=>match o.op with
      | .alloc t=>match zOf P t with
        | some zs=>some ⟨.ptr (s.nx + i) 0 0,some (s.nx + i,zs.length,[zs]),qids e o⟩
        | none=>none
      | op=>match opNew P e (s.nx + i) op with
        | some (.osl id st n,_,es)=>if id = s.nx + i ∧ st = 0 ∧ n = es.length then some ⟨.isl es,none,qids e o⟩ else none
        | _=>none
  | none=>none

theorem d1Op_ok {P : Program} {ops : Array Oper} {s : St} {i : Nat} {e : Nat → AV} {H : Heap} {o : Oper} {f : Ef} (h : d1Op P ops s i e H o = some f) : D1 P ops s i e H o f:=by
  unfold d1Op at h
  split at h
  · rename_i hg
    simp only [Option.some.injEq] at h; subst h
    exact .off hg
  · rename_i hg
    split at h
    · rename_i v hv
      simp only [Option.some.injEq] at h; subst h
      exact .val v hg hv
    · split at h
      · rename_i t ho
        split at h
        · rename_i zs hz
          simp only [Option.some.injEq] at h; subst h
          exact .new t zs hg ho hz
        · simp at h
      · split at h
        · rename_i id st n z es hn
          split at h
          · rename_i hc
            obtain ⟨rfl,rfl,rfl⟩:=hc
            simp only [Option.some.injEq] at h; subst h
            exact .lit z es hg hn
          · simp at h
        · simp at h
  · simp at h

/-- Is nobody who is not sure to be ahead at this block? -/
def hcB (nx : Nat) (o : Oper) (id : Nat) : List Ef → Nat → Bool
  | [],_=>true
  | f :: r,j=>((pre o).contains j || (!f.q.contains id && id != nx + j)) && hcB nx o id r (j + 1)
theorem hcB_ok {nx : Nat} {o : Oper} {id : Nat} : ∀ (l : List Ef) (j : Nat),hcB nx o id l j = true → HC nx (pre o) id l j
  | [],_,_=>trivial
  | f :: r,j,h=>by
    unfold hcB at h
    simp only [Bool.and_eq_true,Bool.or_eq_true,Bool.not_eq_true',bne_iff_ne] at h
    exact ⟨h.1.imp (fun k=>k) fun k=>⟨by simpa using k.1,k.2⟩,hcB_ok r (j + 1) h.2⟩

def d2Op (P : Program) (s : St) (l : List Ef) (o : Oper) (t : St) : Option Ef :=
  match o.op with
  | .assign x=>some ⟨ev t.env x,none,[]⟩
  | op=>match opSto1 P t op with
    | some (id,z,es)=>if o.dst = none ∧ hcB s.nx o id l 0 = true then some ⟨.junk,some (id,z,es),[]⟩ else none
    | none=>none
theorem d2Op_ok {P : Program} {ops : Array Oper} {s : St} {l : List Ef} {o : Oper} {t : St} {f : Ef} (h : d2Op P s l o t = some f) : D2 P ops s l o t f:=by
  unfold d2Op at h
  split at h
  · rename_i x ho
    simp only [Option.some.injEq] at h; subst h
    exact .asg x ho
  · split at h
    · rename_i id z es hs
      split at h
      · rename_i hc
        simp only [Option.some.injEq] at h; subst h
        exact .sto (pre o) id z es hc.1 hs (fun _ _ h=>h) (hcB_ok _ _ hc.2)
      · simp at h
    · simp at h

def runD2 (P : Program) (s : St) (l : List Ef) : List Oper → St → Option St
  | [],t=>some t
  | o :: r,t=>match d2Op P s l o t with
    | some f=>if dstOk s o.dst = true then runD2 P s l r { t with env:=updo t.env o.dst f.v,heap:=hupo t.heap f.blk } else none
    | none=>none

section
variable {P : Program} {ops : Array Oper} {s : St}
theorem DQ.run {l : List Ef} {K : St → Prop} : ∀ (os : List Oper) (t t' : St),runD2 P s l os t = some t' → K t' → DQ P ops s l os t K
  | [],t,t',h,k=>by simp only [runD2,Option.some.injEq] at h; subst h; exact k
  | o :: r,t,t',h,k=>by
    unfold runD2 at h
    split at h
    · rename_i f hf
      split at h
      · rename_i hd
        exact ⟨f,d2Op_ok hf,hd,DQ.run r _ t' h k⟩
      · simp at h
    · simp at h

theorem DP.stepo {o : Oper} {r : List Oper} {i : Nat} {e : Nat → AV} {H : Heap} {K : (Nat → AV) → Heap → List Ef → Prop} (f : Ef) (h1 : d1Op P ops s i e H o = some f) (hd : dstOk s o.dst = true)
    (h : DP P ops s r (i + 1) (updo e o.dst f.v) (hupo H f.blk) fun e' H' l=>K e' H' (f :: l)) : DP P ops s (o :: r) i e H K:=⟨f,d1Op_ok h1,hd,h⟩
theorem DP.fcall {o : Oper} {r : List Oper} {i : Nat} {e : Nat → AV} {H : Heap} {K : (Nat → AV) → Heap → List Ef → Prop} {f : FuncId} {c : Call} {x : Operand} {cps args : List AV} {v : AV} (h1 : FC P f args v) (ho : o.op = .call c) (hc : c.callee = .value x) (hx : ev e x = .fn f cps) (hb : hasBody P f = true) (ha : c.args.toList.map (ev e) ++ cps = args)
    (hg : agd ops { s with env:=e } o = some true) (hd : dstOk s o.dst = true) (h : DP P ops s r (i + 1) (updo e o.dst v) H fun e' H' l=>K e' H' (⟨v,none,qids e o⟩ :: l)) : DP P ops s (o :: r) i e H K :=
  ⟨_,.call f c x cps args v hg ho hc hx hb ha h1,hd,h⟩
theorem DP.ecall {o : Oper} {r : List Oper} {i : Nat} {e : Nat → AV} {H : Heap} {K : (Nat → AV) → Heap → List Ef → Prop} {f : FuncId} {c : Call} {x : Operand} {cps args : List AV} {v : AV} (h1 : FE P f args v) (ho : o.op = .call c) (hc : c.callee = .value x) (hx : ev e x = .fn f cps) (ha : c.args.toList.map (ev e) ++ cps = args)
    (hg : agd ops { s with env:=e } o = some true) (hd : dstOk s o.dst = true) (h : DP P ops s r (i + 1) (updo e o.dst v) H fun e' H' l=>K e' H' (⟨v,none,qids e o⟩ :: l)) : DP P ops s (o :: r) i e H K :=
  ⟨_,.ext f c x cps args v hg ho hc hx ha h1,hd,h⟩
theorem DP.ocall {o : Oper} {r : List Oper} {i : Nat} {e : Nat → AV} {H : Heap} {K : (Nat → AV) → Heap → List Ef → Prop} {f : FuncId} {c : Call} {x : Operand} {cps args : List AV} {z : Nat} {es : List (List AV)} (h1 : FO P f args z es) (ho : o.op = .call c) (hc : c.callee = .value x) (hx : ev e x = .fn f cps) (hb : hasBody P f = true) (ha : c.args.toList.map (ev e) ++ cps = args)
    (hg : agd ops { s with env:=e } o = some true) (hd : dstOk s o.dst = true) (h : DP P ops s r (i + 1) (updo e o.dst (.osl (s.nx + i) 0 es.length)) (hupd H (s.nx + i) (some (z,es))) fun e' H' l=>K e' H' (⟨.osl (s.nx + i) 0 es.length,some (s.nx + i,z,es),qids e o⟩ :: l)) : DP P ops s (o :: r) i e H K :=
  ⟨_,.own f c x cps args z es hg ho hc hx hb ha h1,hd,h⟩
end

def runD1 (P : Program) (ops : Array Oper) (s : St) : List Oper → Nat → (Nat → AV) → Heap → List Ef → Option ((Nat → AV) × Heap × List Ef)
  | [],_,e,H,l=>some (e,H,l.reverse)
  | o :: r,i,e,H,l=>match d1Op P ops s i e H o with
    | some f=>if dstOk s o.dst = true then runD1 P ops s r (i + 1) (updo e o.dst f.v) (hupo H f.blk) (f :: l) else none
    | none=>none

section
variable {P : Program} {ops : Array Oper} {s : St}
theorem DP.run {K : (Nat → AV) → Heap → List Ef → Prop} : ∀ (os : List Oper) (i : Nat) (e : Nat → AV) (H : Heap) (acc : List Ef) (e' : Nat → AV) (H' : Heap) (l : List Ef),runD1 P ops s os i e H acc = some (e',H',l) → K e' H' l → DP P ops s os i e H fun e H l=>K e H (acc.reverse ++ l)
  | [],i,e,H,acc,e',H',l,h,k=>by
    simp only [runD1,Option.some.injEq,Prod.mk.injEq] at h
    obtain ⟨rfl,rfl,rfl⟩:=h
    simpa [DP] using k
  | o :: r,i,e,H,acc,e',H',l,h,k=>by
    unfold runD1 at h
    split at h
    · rename_i f hf
      split at h
      · rename_i hd
        refine ⟨f,d1Op_ok hf,hd,?_⟩
        have:=DP.run r (i + 1) _ _ (f :: acc) e' H' l h k
        simpa using this
      · simp at h
    · simp at h

end

/-! ### Where all stores and assignments stand behind all the rest -/
def isAsg : Op → Bool
  | .assign _=>true
  | _=>false
def fullOk (ops : Array Oper) (m : Nat) : Bool:=(ops.toList.drop m).all fun o=>isAsg o.op || (List.range m).all fun j=>(pre o).contains j

theorem HC.full {nx : Nat} {o : Oper} {id : Nat} : ∀ (l : List Ef) (j m : Nat),(∀ k,k < m → (pre o).contains k = true) → j + l.length ≤ m → HC nx (pre o) id l j
  | [],_,_,_,_=>trivial
  | f :: r,j,m,h,hl=>⟨.inl (h j (by simp at hl; omega)),HC.full r (j + 1) m h (by simp at hl; omega)⟩

def runF2 (P : Program) : List Oper → St → Option St
  | [],t=>some t
  | o :: r,t=>match o.op with
    | .assign x=>if dstOk t o.dst = true then runF2 P r (puts t o.dst (ev t.env x)) else none
    | op=>match opSto1 P t op with
      | some (id,z,es)=>if o.dst = none then runF2 P r { t with heap:=hupd t.heap id (some (z,es)) } else none
      | none=>none

theorem puts_updo' (s : St) (d : Option Nat) (v : AV) : puts s d v = { s with env:=updo s.env d v }:=by cases d <;> rfl

section
variable {P : Program} {ops : Array Oper} {s : St}
theorem DQ.runF {l : List Ef} {K : St → Prop} {m : Nat} (hl : l.length ≤ m) : ∀ (os : List Oper) (t t' : St),(os.all fun o=>isAsg o.op || (List.range m).all fun j=>(pre o).contains j) = true → t.nt = s.nt → runF2 P os t = some t' → K t' → DQ P ops s l os t K
  | [],t,t',_,_,h,k=>by simp only [runF2,Option.some.injEq] at h; subst h; exact k
  | o :: r,t,t',hf,hn,h,k=>by
    simp only [List.all_cons,Bool.and_eq_true] at hf
    unfold runF2 at h
    split at h
    · rename_i x ho
      split at h
      · rename_i hd
        rw [puts_updo'] at h
        refine ⟨_,.asg x ho,?_,DQ.runF hl r _ t' hf.2 hn h k⟩
        cases hdd : o.dst with
        | none=>rfl
        | some d=>rw [hdd] at hd; simpa [dstOk,hn] using hd
      · simp at h
    · split at h
      · rename_i id z es hs
        split at h
        · rename_i hd
          have hna : isAsg o.op = false:=by
            cases hop : o.op <;> first | rfl | (rw [hop] at hs; simp [opSto1] at hs)
          refine ⟨_,.sto (pre o) id z es hd hs (fun _ _ h=>h) (HC.full l 0 m (fun k hk=>List.all_eq_true.mp (by simpa [hna] using hf.1) k (List.mem_range.mpr hk)) (by omega)),by rw [hd]; rfl,?_⟩
          have:=DQ.runF hl r { t with heap:=hupd t.heap id (some (z,es)) } t' hf.2 hn h k
          rw [hd]; exact this
        · simp at h
      · simp at h
end

/-- One operation ahead of the stores; what is new at place i bears the number nx + i. -/
def stepF (P : Program) (ops : Array Oper) (i : Nat) (t : St) (o : Oper) : Option St :=
  match agd ops t o with
  | some false=>if dstOk t o.dst = true then some (puts t o.dst (.tup [])) else none
  | some true=>if dstOk t o.dst = true then (match opVal P t o.op with
    | some r=>some (puts t o.dst r)
    | none=>match o.op with
      | .alloc ty=>match zOf P ty with
        | some zs=>some (puts { t with heap:=hupd t.heap (t.nx + i) (some (zs.length,[zs])) } o.dst (.ptr (t.nx + i) 0 0))
        | none=>none
      | op=>match opNew P t.env (t.nx + i) op with
        | some (.osl id st n,_,es)=>if id = t.nx + i ∧ st = 0 ∧ n = es.length then some (puts t o.dst (.isl es)) else none
        | _=>none) else none
  | none=>none

def runF1 (P : Program) (ops : Array Oper) : List Oper → Nat → St → Option St
  | [],_,t=>some t
  | o :: r,i,t=>match stepF P ops i t o with
    | some t'=>runF1 P ops r (i + 1) t'
    | none=>none

section
variable {P : Program} {ops : Array Oper} {s : St}
theorem dstOk_nt {s t : St} (h : t.nt = s.nt) (d : Option Nat) : dstOk t d = dstOk s d:=by cases d <;> simp [dstOk,h]

theorem DP.runF {K : (Nat → AV) → Heap → List Ef → Prop} : ∀ (os : List Oper) (i : Nat) (t t' : St),t.nt = s.nt → t.nx = s.nx → runF1 P ops os i t = some t' → (∀ l : List Ef,l.length = os.length → t'.nt = s.nt → t'.nx = s.nx → K t'.env t'.heap l) → DP P ops s os i t.env t.heap K
  | [],i,t,t',hn,hx,h,k=>by
    simp only [runF1,Option.some.injEq] at h; subst h
    exact k [] rfl hn hx
  | o :: r,i,t,t',hn,hx,h,k=>by
    unfold runF1 at h
    split at h
    case h_2=>simp at h
    rename_i t2 h2
    have hag : agd ops { s with env:=t.env } o = agd ops t o:=agd_congr (fun _ _=>rfl) hn.symm
    have key : ∀ (f : Ef) (t2 : St),D1 P ops s i t.env t.heap o f → dstOk s o.dst = true → t2.env = updo t.env o.dst f.v → t2.heap = hupo t.heap f.blk → t2.nt = s.nt → t2.nx = s.nx → runF1 P ops r (i + 1) t2 = some t' → DP P ops s (o :: r) i t.env t.heap K:=by
      intro f t2 h1 hd he hH hn2 hx2 hr
      refine ⟨f,h1,hd,?_⟩
      rw [← he,← hH]
      exact DP.runF r (i + 1) t2 t' hn2 hx2 hr fun l hl hn' hx'=>k (f :: l) (by simp [hl]) hn' hx'
    unfold stepF at h2
    split at h2
    · rename_i hg
      split at h2
      · rename_i hd
        simp only [Option.some.injEq] at h2; subst h2
        exact key _ _ (.off (by rw [hag]; exact hg)) (by rw [← dstOk_nt hn]; exact hd) (by rw [puts_updo']) (by rw [puts_updo']; rfl) (by rw [puts_nt]; exact hn) (by rw [puts_nx]; exact hx) h
      · simp at h2
    · rename_i hg
      split at h2
      case isFalse=>simp at h2
      rename_i hd
      have hd' : dstOk s o.dst = true:=by rw [← dstOk_nt hn]; exact hd
      have est : ({ s with env:=t.env,heap:=t.heap } : St) = t:=by
        cases t; simp only [] at hn hx; subst hn hx; rfl
      split at h2
      · rename_i v hv
        simp only [Option.some.injEq] at h2; subst h2
        exact key _ _ (.val v (by rw [hag]; exact hg) (by rw [est]; exact hv)) hd' (by rw [puts_updo']) (by rw [puts_updo']; rfl) (by rw [puts_nt]; exact hn) (by rw [puts_nx]; exact hx) h
      · split at h2
        · rename_i ty ho
          split at h2
          · rename_i zs hz
            simp only [Option.some.injEq] at h2; subst h2
            exact key _ _ (.new ty zs (by rw [hag]; exact hg) ho hz) hd' (by rw [puts_updo',hx]) (by rw [puts_updo',hx]; rfl) (by rw [puts_nt]; exact hn) (by rw [puts_nx]; exact hx) h
          · simp at h2
        · split at h2
          · rename_i id st n z es hnew
            split at h2
            · rename_i hc
              obtain ⟨rfl,rfl,rfl⟩:=hc
              simp only [Option.some.injEq] at h2; subst h2
              rw [hx] at hnew
              exact key _ _ (.lit z es (by rw [hag]; exact hg) hnew) hd' (by rw [puts_updo']) (by rw [puts_updo']; rfl) (by rw [puts_nt]; exact hn) (by rw [puts_nx]; exact hx) h
            · simp at h2
          · simp at h2
    · simp at h2

/-- Some operations of the first part. -/
theorem DP.runFk (k : Nat) {l : List Oper} {i : Nat} {e : Nat → AV} {H : Heap} {t' : St} {KK : (Nat → AV) → Heap → List Ef → Prop} (h1 : runF1 P ops (l.take k) i { s with env:=e,heap:=H } = some t')
    (h : ∀ fs : List Ef,fs.length = (l.take k).length → DP P ops s (l.drop k) (i + (l.take k).length) t'.env t'.heap fun e'' H'' g=>KK e'' H'' (fs ++ g)) : DP P ops s l i e H KK:=by
  rw [← List.take_append_drop k l]
  have happ : ∀ {KK : (Nat → AV) → Heap → List Ef → Prop} (l1 l2 : List Oper) (i : Nat) (e : Nat → AV) (H : Heap),DP P ops s l1 i e H (fun e' H' f=>DP P ops s l2 (i + l1.length) e' H' fun e'' H'' g=>KK e'' H'' (f ++ g)) → DP P ops s (l1 ++ l2) i e H KK:=by
    intro KK l1
    induction l1 generalizing KK with
    | nil=>intro l2 i e H h; simpa [DP] using h
    | cons o r ih =>
      intro l2 i e H h
      obtain ⟨f,h1,h2,h3⟩:=h
      refine ⟨f,h1,h2,?_⟩
      refine ih l2 (i + 1) _ _ ?_
      simpa [Nat.add_assoc,Nat.add_comm 1] using h3
  refine happ _ _ _ _ _ ?_
  exact DP.runF (s:=s) (l.take k) i { s with env:=e,heap:=H } t' rfl rfl h1 fun fs hfs _ _=>h fs hfs

/-- A whole region without calls. -/
def runDf (P : Program) (ops : Array Oper) (m : Nat) (s : St) : Option St :=
  match runF1 P ops (ops.toList.take m) 0 s with
  | some t=>match runF2 P (ops.toList.drop m) t with
    | some t'=>some { t' with nx:=s.nx + ops.size }
    | none=>none
  | none=>none

theorem AWP.drawF {id : Nat} {K : Exit → St → Prop} (m : Nat) (hm : P.follows .mixedOrders = true) (hc : (drawOk ops m && fullOk ops m && decide (m ≤ ops.size)) = true) {s' : St} (h : runDf P ops m s = some s') (hK : K .normal s') : AWP P (.region id ops true) K s:=by
  simp only [Bool.and_eq_true,decide_eq_true_eq] at hc
  obtain ⟨⟨hc1,hc2⟩,hc3⟩:=hc
  refine AWP.draw m hm hc1 hc3 ?_
  unfold runDf at h
  split at h
  · rename_i t h1
    split at h
    · rename_i t' h2
      simp only [Option.some.injEq] at h; subst h
      refine DP.runF (s:=s) _ 0 s t rfl rfl h1 fun l hl hn hx=>?_
      have et : ({ s with env:=t.env,heap:=t.heap } : St) = t:=by
        cases t; simp only [] at hn hx; subst hn hx; rfl
      rw [et]
      exact DQ.runF (m:=m) (by rw [hl]; simp; omega) _ t t' hc2 hn h2 hK
    · simp at h
  · simp at h
end
end Go.Proofs.YtjbbbkfdcegfmaaGreat
