/- A region that loads, and then stores with values between: told by one run. -/
import Derived.Test.YtaibemhdfhchfaaGreatG0X

namespace Go.Proofs.YtaibemhdfhchfaaGreat
open Go Go.RowKit

/-- No operand speaks of a block of one's own. -/
def qnone (e : Nat → AV) : List Operand → Bool
  | []=>true
  | x :: r=>(topId (ev e x)).isNone && qnone e r
theorem qnone_ok {e : Nat → AV} : ∀ {l : List Operand},qnone e l = true → l.filterMap (fun x=>topId (ev e x)) = []
  | [],_=>rfl
  | x :: r,h=>by
    simp only [qnone,Bool.and_eq_true,Option.isNone_iff_eq_none] at h
    rw [List.filterMap_cons,h.1,qnone_ok h.2]
def qOk (e : Nat → AV) (o : Oper) : Bool:=!asksB o.op || qnone e o.op.operands.toList
theorem qOk_ok {e : Nat → AV} {o : Oper} (h : qOk e o = true) : qids e o = []:=by
  unfold qids
  split
  · rename_i ha
    simp only [qOk,ha,Bool.not_true,Bool.false_or] at h
    exact qnone_ok h
  · rfl
/-- The first part; what is listed asks nothing of its operands' blocks. -/
def runQ (P : Program) (ops : Array Oper) (ex : List Nat) : List Oper → Nat → St → Option St
  | [],_,t=>some t
  | o :: r,i,t=>if (ex.contains i && !qOk t.env o) = true then none else match stepF P ops i t o with
    | some t'=>runQ P ops ex r (i + 1) t'
    | none=>none
/-- The second part. -/
def runT (P : Program) : List Oper → St → Option St
  | [],t=>some t
  | o :: r,t=>match o.op with
    | .assign x=>if dstOk t o.dst = true then runT P r (puts t o.dst (ev t.env x)) else none
    | .store a b c=>match opSto1 P t (.store a b c) with
      | some (id,z,es)=>if o.dst = none ∧ id < t.nx then runT P r { t with heap:=hupd t.heap id (some (z,es)) } else none
      | none=>none
    | op=>match opVal P t op with
      | some v=>if dstOk t o.dst = true then runT P r (puts t o.dst v) else none
      | none=>none
def isSto : Op → Bool
  | .store ..=>true
  | _=>false
def tlOk (ops : Array Oper) (m : Nat) (ex : List Nat) : Bool:=(ops.toList.drop m).all fun o=>!isSto o.op || (List.range m).all fun j=>(clo ops 3 (pre o)).contains j || ex.contains j

section
variable {P : Program} {ops : Array Oper} {s : St}
theorem stepF_nt {i : Nat} {t t' : St} {o : Oper} (h : stepF P ops i t o = some t') : t'.nt = t.nt ∧ t'.nx = t.nx:=by
  unfold stepF at h
  repeat' split at h
  all_goals simp at h
  all_goals subst h
  all_goals exact ⟨puts_nt _ _ _,puts_nx _ _ _⟩
theorem st_eta {t : St} (hn : t.nt = s.nt) (hx : t.nx = s.nx) : ({ s with env:=t.env,heap:=t.heap } : St) = t:=by
  cases t; simp only [] at hn hx; subst hn hx; rfl
theorem DP.runQ {ex : List Nat} : ∀ {K : (Nat → AV) → Heap → List Ef → Prop} (os : List Oper) (i : Nat) (t t' : St),t.nt = s.nt → t.nx = s.nx → YtaibemhdfhchfaaGreat.runQ P ops ex os i t = some t' →
    (∀ l : List Ef,l.length = os.length → (∀ k f,l[k]? = some f → ex.contains (i + k) = true → f.q = []) → t'.nt = s.nt → t'.nx = s.nx → K t'.env t'.heap l) → DP P ops s os i t.env t.heap K
  | K,[],i,t,t',hn,hx,h,k=>by
    simp only [YtaibemhdfhchfaaGreat.runQ,Option.some.injEq] at h; subst h
    exact k [] rfl (fun k f h=>by simp at h) hn hx
  | K,o :: r,i,t,t',hn,hx,h,k=>by
    unfold YtaibemhdfhchfaaGreat.runQ at h
    split at h
    · simp at h
    rename_i hq
    split at h
    case h_2=>simp at h
    rename_i t2 h2
    obtain ⟨hn2,hx2⟩:=stepF_nt h2
    refine DP.runF1q (t':=t2) (by rw [st_eta hn hx]; simp [runF1,h2]) fun f hf=>?_
    refine DP.runQ r (i + 1) t2 t' (hn2.trans hn) (hx2.trans hx) h fun l hl hlq hn' hx'=>k (f :: l) (by simp [hl]) (fun j g hj hjx=>?_) hn' hx'
    cases j with
    | zero =>
      simp only [List.getElem?_cons_zero,Option.some.injEq] at hj; subst hj
      rw [hf]
      have hjx' : ex.contains i = true:=hjx
      rw [hjx'] at hq
      exact qOk_ok (by simpa using hq)
    | succ j =>
      rw [List.getElem?_cons_succ] at hj
      exact hlq j g hj (by rw [show i + 1 + j = i + (j + 1) by omega]; exact hjx)
theorem DQ.runT {ex : List Nat} {m : Nat} {l : List Ef} {K : St → Prop} (hl : l.length ≤ m) (hq : ∀ k f,l[k]? = some f → ex.contains k = true → f.q = []) : ∀ (os : List Oper) (t t' : St),
    (os.all fun o=>!isSto o.op || (List.range m).all fun j=>(clo ops 3 (pre o)).contains j || ex.contains j) = true → t.nt = s.nt → t.nx = s.nx → YtaibemhdfhchfaaGreat.runT P os t = some t' → (t'.nt = s.nt → t'.nx = s.nx → K t') → DQ P ops s l os t K
  | [],t,t',_,hn,hx,h,k=>by
    simp only [YtaibemhdfhchfaaGreat.runT,Option.some.injEq] at h; subst h; exact k hn hx
  | o :: r,t,t',hc,hn,hx,h,k=>by
    simp only [List.all_cons,Bool.and_eq_true] at hc
    have hv : ∀ v,opVal P t o.op = some v → dstOk t o.dst = true → YtaibemhdfhchfaaGreat.runT P r (puts t o.dst v) = some t' → DQ P ops s l (o :: r) t K:=by
      intro v h1 hd h2
      refine DQ.val1 v h1 (by rw [← dstOk_nt hn]; exact hd) ?_
      rw [← puts_updo']
      exact DQ.runT hl hq r _ t' hc.2 ((puts_nt _ _ _).trans hn) ((puts_nx _ _ _).trans hx) h2 k
    unfold YtaibemhdfhchfaaGreat.runT at h
    split at h
    · rename_i x ho
      split at h
      · rename_i hd
        refine DQ.asg1 x ho (by rw [← dstOk_nt hn]; exact hd) ?_
        rw [← puts_updo']
        exact DQ.runT hl hq r _ t' hc.2 ((puts_nt _ _ _).trans hn) ((puts_nx _ _ _).trans hx) h k
      · simp at h
    · rename_i a b c ho
      split at h
      · rename_i id z es hs
        split at h
        · rename_i hd
          refine DQ.stoT (m:=m) ex (id,z,es) (by rw [ho]; exact hs) hd.1 hl (by simpa [ho,isSto] using hc.1) (fun j f hj hjx=>?_) (DQ.runT hl hq r _ t' hc.2 hn hx h k)
          refine ⟨by rw [hq j f hj (by simpa using hjx)]; simp,?_⟩
          have:=hd.2; simp only []; omega
        · simp at h
      · simp at h
    · split at h
      · rename_i v hs
        split at h
        · rename_i hd; exact hv v hs hd h
        · simp at h
      · simp at h
theorem AWP.sw {id : Nat} {K : Exit → St → Prop} {l : List Oper} {t t' : St} (m : Nat) (ex : List Nat) (h : K .normal { t' with nx:=s.nx + l.toArray.size }) (h1 : runQ P l.toArray ex (l.take m) 0 s = some t) (h2 : runT P (l.drop m) t = some t')
    (hc : (drawOk l.toArray m && decide (m ≤ l.toArray.size) && tlOk l.toArray m ex) = true:=by kernel_rfl) (hm : P.follows .mixedOrders = true:=by exact mixT) : AWP P (.region id l.toArray true) K s:=by
  simp only [Bool.and_eq_true,decide_eq_true_eq] at hc
  obtain ⟨⟨hc1,hc2⟩,hc3⟩:=hc
  refine AWP.draw m hm hc1 hc2 ?_
  refine DP.runQ (s:=s) _ 0 s t rfl rfl h1 fun f hl hq hn hx=>?_
  rw [st_eta hn hx]
  exact DQ.runT (m:=m) (ex:=ex) (by rw [hl]; simp; omega) (fun k f hk hx=>hq k f hk (by rw [Nat.zero_add]; exact hx)) _ t t' hc3 hn hx h2 fun _ _=>h
end
end Go.Proofs.YtaibemhdfhchfaaGreat
