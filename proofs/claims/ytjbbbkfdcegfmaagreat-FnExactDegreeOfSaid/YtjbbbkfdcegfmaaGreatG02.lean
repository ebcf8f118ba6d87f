/- Operations that yield a value and leave the world as it is: what they yield of abstract values. -/
import Derived.Test.YtjbbbkfdcegfmaaGreatG01
import Derived.Laws.Cells
import Derived.Laws.Entries
import Derived.Laws.StructEq

namespace Go.Proofs.YtjbbbkfdcegfmaaGreat
open Go Go.RowKit

/-- A type's cells; is it a struct or an array; a struct's field: where it lies, its cells; a slice's element type. -/
def szOf (P : Program) (t : TypeId) : Option Nat:=(P.info? t).map (·.size)
def byOf (P : Program) (t : TypeId) : Option Nat:=(P.info? t).map (·.bytes)
theorem info_of {P : Program} {t : TypeId} {n y : Nat} (h : szOf P t = some n) (k : byOf P t = some y) : ∃ i,P.info? t = some i ∧ i.size = n ∧ i.bytes = y:=by
  unfold szOf at h
  obtain ⟨i,hi,rfl⟩:=Option.map_eq_some_iff.mp h
  unfold byOf at k
  rw [hi] at k
  exact ⟨i,hi,rfl,by simpa using k⟩
def aggT (P : Program) (t : TypeId) : Option Bool:=(P.underlying t).map fun d=>match d with | .struct _ | .array _ _=>true | _=>false
def fldOf (P : Program) (t : TypeId) (f : Nat) : Option (Nat × Nat × TypeId):=match P.underlying t with
  | some (.struct fs)=>match fs[f]? with
    | some fd=>match szOf P fd.type with
      | some n=>some (fd.offset,n,fd.type)
      | none=>none
    | none=>none
  | _=>none
def elOf (P : Program) (t : TypeId) : Option TypeId:=match P.underlying t with
  | some (.slice e)=>some e
  | _=>none

section
variable {P : Program} {w : World} {β : Nat → Option Loc} {b : Nat → Bool}

theorem run_szOf {t : TypeId} {n : Nat} (h : szOf P t = some n) : (sizeOf t).run P w = .ok n w:=by
  unfold szOf at h
  obtain ⟨i,hi,rfl⟩:=Option.map_eq_some_iff.mp h
  simp [sizeOf,typeInfo,hi]

theorem run_aggT {t : TypeId} {c : Bool} (h : aggT P t = some c) : (isAgg t).run P w = .ok c w:=by
  unfold aggT at h
  obtain ⟨d,hd,rfl⟩:=Option.map_eq_some_iff.mp h
  simp only [isAgg,Sem.run_bind,run_underlying hd,Result.andThen_ok]
  cases d <;> rfl

theorem elOf_under {t e : TypeId} (h : elOf P t = some e) : P.underlying t = some (.slice e):=by
  unfold elOf at h
  split at h
  · rename_i e' he; simp at h; subst h; exact he
  · simp at h

/-- What is read as a type's value out of cells. -/
def aLoad (P : Program) (t : TypeId) (cells : List AV) : Option AV :=
  match aggT P t with
  | some true=>match szOf P t with
    | some n=>if n ≤ cells.length then some (.agg (cells.take n)) else none
    | none=>none
  | some false=>cells[0]?
  | none=>none

theorem add_off (g o j : Nat) : (⟨g,o,none⟩ : Addr).add j = ⟨g,o + j,none⟩:=by
  unfold Addr.add
  split
  · rename_i h; subst h; rfl
  · rfl

theorem aLoad_ok {t : TypeId} {cells : List AV} {vs : List Value} {x : AV} {g o : Nat} (hl : VRL w β b cells vs)
    (hc : ∀ j u,vs[j]? = some u → w.cell? ⟨g,o + j,none⟩ = some u) (h : aLoad P t cells = some x) :
    ∃ v,(loadVar t ⟨g,o,none⟩).run P w = .ok v w ∧ VR w β b x v:=by
  unfold aLoad at h
  cases ha : aggT P t with
  | none=>simp [ha] at h
  | some c =>
    cases c with
    | true =>
      simp only [ha] at h
      cases hn : szOf P t with
      | none=>simp [hn] at h
      | some n =>
        simp only [hn] at h
        split at h
        · rename_i hle
          simp only [Option.some.injEq] at h
          subst h
          have hlen:=VRL.length _ _ hl
          refine ⟨.agg (vs.take n).toArray,?_,⟨_,rfl,by simpa using VRL.take n _ _ hl⟩⟩
          have:=run_loadCells_list (P:=P) (w:=w) (⟨g,o,none⟩ : Addr) (vs.take n) (fun j u hu=>by
            rw [add_off]
            refine hc j u ?_
            rw [List.getElem?_take] at hu
            split at hu
            · exact hu
            · simp at hu)
          rw [List.length_take,Nat.min_eq_left (by omega)] at this
          simp only [loadVar,Sem.run_bind,run_aggT ha,Result.andThen_ok,if_true,run_szOf hn,this,Sem.run_pure]
        · simp at h
    | false =>
      simp only [ha] at h
      obtain ⟨u,hu,hx⟩:=VRL.get _ _ 0 x hl h
      refine ⟨u,?_,hx⟩
      have:=hc 0 u hu
      simp only [Nat.add_zero] at this
      simp [loadVar,run_aggT ha,this]
end

/-- Operators on numbers, truth values, texts. -/
def aBin (op : BinOp) (x y : AV) : Option AV :=
  match x,y with
  | .int k a,.int k' c =>
    match op with
    | .shl=>if 0 ≤ c then some (.int k (k.wrap (a * 2 ^ (min c.toNat k.bits)))) else none
    | .shr=>if 0 ≤ c then some (.int k (a.fdiv (2 ^ (min c.toNat k.bits)))) else none
    | _=>if k = k' then (match op with
      | .add=>some (.int k (k.wrap (a + c)))
      | .sub=>some (.int k (k.wrap (a - c)))
      | .mul=>some (.int k (k.wrap (a * c)))
      | .quo=>if c = 0 then none else some (.int k (k.wrap (a.tdiv c)))
      | .rem=>if c = 0 then none else some (.int k (a.tmod c))
      | .and=>some (.int k (bits .and k a c))
      | .or=>some (.int k (bits .or k a c))
      | .xor=>some (.int k (bits .xor k a c))
      | .andNot=>some (.int k (bits .andNot k a c))
      | .eql=>some (.bool (a == c))
      | .neq=>some (.bool (a != c))
      | .lss=>some (.bool (decide (a < c)))
      | .leq=>some (.bool (decide (a ≤ c)))
      | .gtr=>some (.bool (decide (a > c)))
      | .geq=>some (.bool (decide (a ≥ c)))
      | _=>none) else none
  | .str a,.str c=>match op with
    | .add=>if a.size + c.size ≤ 9223372036854775807 then some (.str (a ++ c)) else none
    | .eql=>some (.bool (a.toList == c.toList))
    | .neq=>some (.bool !(a.toList == c.toList))
    | _=>none
  | _,_=>none

section
variable {P : Program} {w : World} {β : Nat → Option Loc} {b : Nat → Bool}
theorem aBin_ok {op : BinOp} {t : TypeId} {X Y : Operand} {x y r : AV} {u v : Value} (hx : VR w β b x u) (hy : VR w β b y v) (h : aBin op x y = some r) :
    ∃ v',(do eqGuard op t X Y u v; binOp op t u v : Sem Value).run P w = .ok v' w ∧ VR w β b r v':=by
  unfold aBin at h
  split at h
  · rename_i k a k' c
    have hx : u = .int k a:=hx
    have hy : v = .int k' c:=hy
    subst hx; subst hy
    have heg : eqGuard op t X Y (.int k a) (.int k' c) = pure ():=by cases op <;> rfl
    rw [heg]
    have key : ∀ r' : Value,(binOp op t (.int k a) (.int k' c)).run P w = .ok r' w → ∀ r,VR w β b r r' → ∃ v',(do pure (); binOp op t (.int k a) (.int k' c) : Sem Value).run P w = .ok v' w ∧ VR w β b r v' :=
      fun r' hr r hv=>⟨r',by simpa using hr,hv⟩
    cases op <;> simp only [] at h
    case shl =>
      split at h
      · rename_i h0
        simp only [Option.some.injEq] at h; subst h
        refine key _ ?_ _ rfl
        show (Op.shift .shl k a k' c).run P w = _
        unfold Op.shift
        rw [if_neg (by omega)]; rfl
      · simp at h
    case shr =>
      split at h
      · rename_i h0
        simp only [Option.some.injEq] at h; subst h
        refine key _ ?_ _ rfl
        show (Op.shift .shr k a k' c).run P w = _
        unfold Op.shift
        rw [if_neg (by omega)]; rfl
      · simp at h
    all_goals (
      split at h
      case isFalse=>simp at h
      rename_i hk
      subst hk)
    case h_1.quo.isTrue =>
      split at h
      · simp at h
      · rename_i h0
        simp only [Option.some.injEq] at h; subst h
        refine key _ ?_ _ rfl
        rw [binOp_quo]; unfold Op.intDiv; rw [if_neg h0]; rfl
    case h_1.rem.isTrue =>
      split at h
      · simp at h
      · rename_i h0
        simp only [Option.some.injEq] at h; subst h
        refine key _ ?_ _ rfl
        rw [binOp_rem]; unfold Op.intDiv; rw [if_neg h0]; rfl
    case h_1.add.isTrue=>simp only [Option.some.injEq] at h; subst h; exact key _ (by rw [binOp_add]; rfl) _ rfl
    case h_1.sub.isTrue=>simp only [Option.some.injEq] at h; subst h; exact key _ (by rw [binOp_sub]; rfl) _ rfl
    case h_1.mul.isTrue=>simp only [Option.some.injEq] at h; subst h; exact key _ (by rw [binOp_mul]; rfl) _ rfl
    case h_1.and.isTrue=>simp only [Option.some.injEq] at h; subst h; exact key _ (by rw [binOp_and]; rfl) _ rfl
    case h_1.or.isTrue=>simp only [Option.some.injEq] at h; subst h; exact key _ (by rw [binOp_or]; rfl) _ rfl
    case h_1.xor.isTrue=>simp only [Option.some.injEq] at h; subst h; exact key _ (by rw [binOp_xor]; rfl) _ rfl
    case h_1.andNot.isTrue=>simp only [Option.some.injEq] at h; subst h; exact key _ (by rw [binOp_andNot]; rfl) _ rfl
    case h_1.eql.isTrue=>simp only [Option.some.injEq] at h; subst h; exact key _ (by rw [binOp_eql]; rfl) _ rfl
    case h_1.neq.isTrue=>simp only [Option.some.injEq] at h; subst h; exact key _ (by rw [binOp_neq]; rfl) _ rfl
    case h_1.lss.isTrue=>simp only [Option.some.injEq] at h; subst h; exact key _ (by rw [binOp_lss]; rfl) _ rfl
    case h_1.leq.isTrue=>simp only [Option.some.injEq] at h; subst h; exact key _ (by rw [binOp_leq]; rfl) _ rfl
    case h_1.gtr.isTrue=>simp only [Option.some.injEq] at h; subst h; exact key _ (by rw [binOp_gtr]; rfl) _ rfl
    case h_1.geq.isTrue=>simp only [Option.some.injEq] at h; subst h; exact key _ (by rw [binOp_geq]; rfl) _ rfl
  · rename_i a c
    have hx : u = .string a:=hx
    have hy : v = .string c:=hy
    subst hx; subst hy
    have heg : eqGuard op t X Y (.string a) (.string c) = pure ():=by cases op <;> rfl
    rw [heg]
    cases op <;> simp only [] at h <;> try (simp at h; done)
    case add =>
      split at h
      · rename_i hs
        simp only [Option.some.injEq] at h; subst h
        refine ⟨.string (a ++ c),?_,rfl⟩
        simp only [Sem.run_bind,Sem.run_pure,Result.andThen_ok]
        show (Op.stringOp .add a c).run P w = _
        unfold Op.stringOp
        simp only []
        rw [if_neg (by simp only [IntKind.max,IntKind.signed,IntKind.bits]; omega)]; rfl
      · simp at h
    case eql=>simp only [Option.some.injEq] at h; subst h; exact ⟨_,rfl,rfl⟩
    case neq=>simp only [Option.some.injEq] at h; subst h; exact ⟨_,rfl,rfl⟩
  · simp at h
end

def aUn (op : UnOp) (x : AV) : Option AV :=
  match op,x with
  | .neg,.int k n=>some (.int k (k.wrap (0 - n)))
  | .xor,.int k n=>some (.int k (bits .xor k (if k.signed then -1 else k.max) n))
  | .not,.bool c=>some (.bool !c)
  | _,_=>none

theorem aUn_ok {P : Program} {w : World} {β : Nat → Option Loc} {b : Nat → Bool} {op : UnOp} {x r : AV} {u : Value} (hx : VR w β b x u) (h : aUn op x = some r) :
    ∃ v',(Op.unary op u).run P w = .ok v' w ∧ VR w β b r v':=by
  unfold aUn at h
  split at h
  · rename_i k n; simp only [Option.some.injEq] at h; subst h; have hx : u = .int k n:=hx; subst hx; exact ⟨_,rfl,rfl⟩
  · rename_i k n; simp at h; subst h; have hx : u = .int k n:=hx; subst hx; exact ⟨_,rfl,rfl⟩
  · rename_i c; simp at h; subst h; have hx : u = .bool c:=hx; subst hx; exact ⟨_,rfl,rfl⟩
  · simp at h

/-- The field of a struct behind an address. -/
def aField (P : Program) (s : St) (t : TypeId) (x : AV) (f : Nat) : Option AV :=
  match fldOf P t f with
  | some (off,n,_)=>if n = 0 then none else match x with
    | .ptr id e o=>if (s.heap id).isSome then some (.ptr id e (o + off)) else none
    | .ip cs=>some (.ip (cs.drop off))
    | _=>none
  | none=>none

theorem fldOf_under {P : Program} {t : TypeId} {f off n : Nat} {u : TypeId} (h : fldOf P t f = some (off,n,u)) : ∃ fs fd,P.underlying t = some (.struct fs) ∧ fs[f]? = some fd ∧ fd.offset = off ∧ fd.type = u ∧ szOf P u = some n:=by
  unfold fldOf at h
  split at h
  · rename_i fs hfs
    split at h
    · rename_i fd hfd
      split at h
      · rename_i m hm
        simp only [Option.some.injEq,Prod.mk.injEq] at h
        obtain ⟨h1,h2,h3⟩:=h
        subst h2; subst h3
        exact ⟨fs,fd,hfs,hfd,h1,rfl,hm⟩
      · simp at h
    · simp at h
  · simp at h

theorem aField_ok {P : Program} {w0 w : World} {β : Nat → Option Loc} {b : Nat → Bool} {s : St} {a : Act} (hs : SRb w0 w β b s a) {t : TypeId} {f : Nat} {x r : AV} {u : Value} (hx : VR w β b x u) (h : aField P s t x f = some r) :
    ∃ v,(Instr.fieldAt t u f).run P w = .ok v w ∧ VR w β b r v:=by
  unfold aField at h
  split at h
  · rename_i off n ft hf
    obtain ⟨fs,fd,h1,h2,h3,h4,h5⟩:=fldOf_under hf
    split at h
    · simp at h
    · rename_i hn
      have hsz : (sizeOf fd.type).run P w = .ok n w:=run_szOf (by rw [h4]; exact h5)
      have base : ∀ (g o : Nat),(Instr.fieldAt t (.pointer (some ⟨g,o,none⟩)) f).run P w = .ok (.pointer (some ⟨g,o + off,none⟩)) w:=by
        intro g o
        simp only [Instr.fieldAt,Sem.run_bind,run_underlying h1,Result.andThen_ok,h2,Instr.sureAddr,Sem.run_pure,fieldPlace,hsz,if_neg hn,add_off,h3]
      split at h
      · rename_i id e o
        split at h
        · rename_i hsome
          simp only [Option.some.injEq] at h; subst h
          obtain ⟨⟨z,es⟩,hz⟩:=Option.isSome_iff_exists.mp hsome
          obtain ⟨l,hl,hb⟩:=hs.hr.blk id z es hz
          have hv:=hx.2.2 l hl
          subst hv
          refine ⟨_,base _ _,hx.1,⟨_,rfl⟩,fun l' hl'=>?_⟩
          rw [hl] at hl'; simp only [Option.some.injEq] at hl'; subst hl'
          rw [Nat.add_assoc]
        · simp at h
      · rename_i cs
        simp only [Option.some.injEq] at h; subst h
        obtain ⟨g,o,vs,hv,hl,hr⟩:=hx
        subst hv
        refine ⟨_,base g o,g,o + off,vs.drop off,rfl,VRL.drop off _ _ hl,fun j c hc=>?_⟩
        obtain ⟨g',o',e1,e2,e3⟩:=hr (off + j) c (by simpa using hc)
        simp only [Option.some.injEq,Addr.mk.injEq,and_true] at e1
        obtain ⟨rfl,rfl⟩:=e1
        exact ⟨g,o + off,rfl,by rw [Nat.add_assoc]; exact e2,e3⟩
      · simp at h
  · simp at h

/-- What is loaded from behind an address. -/
def aLd (P : Program) (s : St) (t : TypeId) (x : AV) : Option AV :=
  match x with
  | .ptr id e o=>match s.heap id with
    | some (_,es)=>match es[e]? with
      | some cs=>aLoad P t (cs.drop o)
      | none=>none
    | none=>none
  | .ip cs=>aLoad P t cs
  | _=>none

theorem aLd_ok {P : Program} {w0 w : World} {β : Nat → Option Loc} {b : Nat → Bool} {s : St} {a : Act} (hs : SRb w0 w β b s a) {t : TypeId} {x r : AV} {u : Value} (hx : VR w β b x u) (h : aLd P s t x = some r) :
    ∃ v,(Instr.loadAt t u).run P w = .ok v w ∧ VR w β b r v:=by
  unfold aLd at h
  split at h
  · rename_i id e o
    split at h
    · rename_i z es hz
      split at h
      · rename_i cs hcs
        obtain ⟨l,hl,hzz,c,elem,hg,vss,hvl,hcell⟩:=hs.hr.blk id z es hz
        have hv:=hx.2.2 l hl
        subst hv
        obtain ⟨vs,hvs,hrow⟩:=VRLL.get _ _ e cs hvl hcs
        obtain ⟨_,hj⟩:=hcell e vs hvs
        obtain ⟨v,hrun,hr⟩:=aLoad_ok (P:=P) (w:=w) (g:=l.g) (o:=l.o + e * l.z + o) (VRL.drop o _ _ hrow) (fun j q hq=>by
          have:=hj (o + j) q (by simpa using hq)
          rw [← hzz] at this
          simp only [World.cell?,hg,Option.isSome_none,Bool.false_eq_true,if_false]
          rw [← this]; congr 1; omega) h
        exact ⟨v,by simpa [Instr.loadAt,Instr.sureAddr] using hrun,hr⟩
      · simp at h
    · simp at h
  · rename_i cs
    obtain ⟨g,o,vs,hv,hl,hr⟩:=hx
    subst hv
    obtain ⟨v,hrun,hr'⟩:=aLoad_ok (P:=P) (w:=w) (g:=g) (o:=o) hl (fun j q hq=>by
      obtain ⟨g',o',e1,e2,e3⟩:=hr j q hq
      simp only [Option.some.injEq,Addr.mk.injEq,and_true] at e1
      obtain ⟨rfl,rfl⟩:=e1
      exact e2) h
    exact ⟨v,by simpa [Instr.loadAt,Instr.sureAddr] using hrun,hr'⟩
  · simp at h

/-- The address of an element of a slice. -/
def aIdx (P : Program) (s : St) (t : TypeId) (x i : AV) : Option AV :=
  match elOf P t,i with
  | some el,.int _ i=>if 0 ≤ i then (match x with
    | .isl es=>match es[i.toNat]? with
      | some cs=>if szOf P el = some cs.length ∧ cs.length ≠ 0 then some (.ip cs) else none
      | none=>none
    | .osl id st n=>match s.heap id with
      | some (z,_)=>if i < n ∧ szOf P el = some z ∧ z ≠ 0 then some (.ptr id (st + i.toNat) 0) else none
      | none=>none
    | _=>none) else none
  | _,_=>none

theorem aIdx_ok {P : Program} {w0 w : World} {β : Nat → Option Loc} {b : Nat → Bool} {s : St} {a : Act} (hs : SRb w0 w β b s a) {t : TypeId} {x i r : AV} {u v : Value} (hx : VR w β b x u) (hi : VR w β b i v) (h : aIdx P s t x i = some r) :
    ∃ v',(Instr.indexAt t u v).run P w = .ok v' w ∧ VR w β b r v':=by
  unfold aIdx at h
  split at h
  · rename_i el k i hel
    have hv : v = .int k i:=hi
    subst hv
    have hu:=elOf_under hel
    have hu' : P.underlying t = some (.slice (P.elem t)):=by simp [Program.elem,hu]
    have hel' : P.elem t = el:=by simp [Program.elem,hu]
    split at h
    case isFalse=>simp at h
    rename_i h0
    split at h
    · rename_i es
      split at h
      · rename_i cs hcs
        split at h
        · rename_i hsz
          obtain ⟨hsz,hne⟩:=hsz
          simp only [Option.some.injEq] at h; subst h
          obtain ⟨A,cap,z,vss,hv,hcap,hl,hr⟩:=hx
          subst hv
          obtain ⟨vs,hvs,hrow⟩:=VRLL.get _ _ _ cs hl hcs
          obtain ⟨hz,hj⟩:=hr _ vs hvs
          have hlen:=VRL.length _ _ hrow
          have hlt : i.toNat < es.length:=by
            rcases Nat.lt_or_ge i.toNat es.length with h' | h'
            · exact h'
            · rw [List.getElem?_eq_none h'] at hcs; simp at hcs
          obtain ⟨g,o,e1,_,_⟩:=hj 0 (vs[0]'(by omega)) (by rw [List.getElem?_eq_getElem])
          subst e1
          refine ⟨.pointer (some ⟨g,o + i.toNat * z,none⟩),?_,g,o + i.toNat * z,vs,rfl,hrow,fun j q hq=>?_⟩
          · rw [run_indexAt_slice w t _ _ _ _ _ hu',if_pos ⟨h0,by omega⟩,hel',run_szOf hsz,← hlen,hz]
            simp only [Result.andThen_ok,add_off]
          · obtain ⟨g',o',e1,e2,e3⟩:=hj j q hq
            simp only [Option.some.injEq,Addr.mk.injEq,and_true] at e1
            obtain ⟨rfl,rfl⟩:=e1
            exact ⟨g,o + i.toNat * z,rfl,by rw [Nat.add_assoc]; exact e2,e3⟩
        · simp at h
      · simp at h
    · rename_i id st n
      split at h
      · rename_i z es hz
        split at h
        · rename_i hc
          obtain ⟨hlt,hsz,hne⟩:=hc
          simp only [Option.some.injEq] at h; subst h
          obtain ⟨l,hl,hzz,_⟩:=hs.hr.blk id z es hz
          obtain ⟨hb,_,hx⟩:=hx
          obtain ⟨A,cap,hv,hcap,hor⟩:=hx l hl
          subst hv
          have hA : A = some ⟨l.g,l.o + st * l.z,none⟩:=by
            rcases hor with h' | ⟨h',_⟩
            · omega
            · exact h'
          subst hA
          refine ⟨.pointer (some ⟨l.g,l.o + st * l.z + i.toNat * z,none⟩),?_,hb,⟨_,rfl⟩,fun l' hl'=>?_⟩
          · rw [run_indexAt_slice w t _ _ _ _ _ hu',if_pos ⟨h0,hlt⟩,hel',run_szOf hsz]
            simp only [Result.andThen_ok,add_off]
          · rw [hl] at hl'; simp only [Option.some.injEq] at hl'; subst hl'
            rw [← hzz,Nat.add_mul]; congr 3; omega
        · simp at h
      · simp at h
    · simp at h
  · simp at h

def strT (P : Program) (t : TypeId) : Bool:=match P.underlying t with | some .string=>true | _=>false
theorem isStr {P : Program} {t : TypeId} (ht : strT P t = true) : P.underlying t = some .string:=by
  unfold strT at ht
  split at ht
  · rename_i h; exact h
  · simp at ht

/-- A byte of a text. -/
def aSix (P : Program) (t : TypeId) (x i : AV) : Option AV :=
  match x,i with
  | .str s,.int _ i=>if strT P t = true then (if 0 ≤ i then (match s[i.toNat]? with | some c=>some (.int .u8 c.toNat) | none=>none) else none) else none
  | _,_=>none

theorem aSix_ok {P : Program} {w : World} {β : Nat → Option Loc} {b : Nat → Bool} {t : TypeId} {x i r : AV} {u v : Value} (hx : VR w β b x u) (hi : VR w β b i v) (h : aSix P t x i = some r) :
    ∃ v',(Instr.index t u v).run P w = .ok v' w ∧ VR w β b r v':=by
  unfold aSix at h
  split at h
  · rename_i s k i
    have hu : u = .string s:=hx
    have hv : v = .int k i:=hi
    subst hu; subst hv
    split at h
    · rename_i ht
      have ht' : P.underlying t = some .string:=isStr ht
      split at h
      · rename_i h0
        split at h
        · rename_i c hc
          simp only [Option.some.injEq] at h; subst h
          refine ⟨.int .u8 c.toNat,?_,rfl⟩
          simp only [Instr.index,asIntOf,Sem.run_bind,Sem.run_pure,Result.andThen_ok,run_underlying ht',if_pos h0,hc]
        · simp at h
      · simp at h
    · simp at h
  · simp at h

/-- A part of a slice or a text. -/
def bnd (x : Option AV) (d : Nat) : Option Nat:=match x with
  | none=>some d
  | some (.int _ i)=>if 0 ≤ i then some i.toNat else none
  | _=>none

def aSlc (P : Program) (s : St) (t : TypeId) (x : AV) (lo hi : Option AV) : Option AV :=
  match x with
  | .isl es=>match elOf P t,bnd lo 0,bnd hi es.length with
    | some el,some l,some h=>if l ≤ h ∧ h ≤ es.length ∧ (szOf P el).isSome ∧ (∀ c ∈ es,szOf P el = some c.length) then some (.isl ((es.take h).drop l)) else none
    | _,_,_=>none
  | .osl id st n=>match s.heap id,elOf P t,bnd lo 0,bnd hi n with
    | some (z,_),some el,some l,some h=>if l ≤ h ∧ h ≤ n ∧ szOf P el = some z then some (.osl id (st + l) (h - l)) else none
    | _,_,_,_=>none
  | .str c=>if strT P t = true then (match bnd lo 0,bnd hi c.size with
    | some l,some h=>if l ≤ h ∧ h ≤ c.size then some (.str (c.extract l h)) else none
    | _,_=>none) else none
  | .nsl=>match elOf P t,bnd lo 0,bnd hi 0 with
    | some el,some 0,some 0=>if (szOf P el).isSome then some .nsl else none
    | _,_,_=>none
  | _=>none

theorem bnd_ok {P : Program} {w : World} {β : Nat → Option Loc} {b : Nat → Bool} {i : AV} {v : Value} {l y : Nat} {c : BoundsCode} {d : Nat} (hi : VR w β b i v) (h : bnd (some i) d = some l) (hy : l ≤ y) : (Instr.sliceBound v y c).run P w = .ok l w:=by
  unfold bnd at h
  split at h
  · simp at *
  · rename_i k i' he
    simp only [Option.some.injEq] at he
    subst he
    have hv : v = .int k i':=hi
    subst hv
    split at h
    · rename_i h0
      simp only [Option.some.injEq] at h; subst h
      simp only [Instr.sliceBound,asIntOf,Sem.run_bind,Sem.run_pure,Result.andThen_ok]
      rw [if_pos ⟨h0,by omega⟩]; rfl
    · simp at h
  · simp at h

/-- The bounds of a cut, as the machine finds them. -/
theorem bnds_ok {P : Program} {w : World} {β : Nat → Option Loc} {b : Nat → Bool} {lo hi : Option AV} {vl vh : Option Value} {l h n cap : Nat} {sl : Bool}
    (hl : ∀ i,lo = some i → ∃ v,vl = some v ∧ VR w β b i v) (hl0 : lo = none → vl = none) (hh : ∀ i,hi = some i → ∃ v,vh = some v ∧ VR w β b i v) (hh0 : hi = none → vh = none)
    (el : bnd lo 0 = some l) (eh : bnd hi n = some h) (h1 : l ≤ h) (h2 : h ≤ n) (h3 : n ≤ cap) :
    (Instr.sliceBounds sl n cap vl vh none).run P w = .ok (l,h,cap) w:=by
  cases lo with
  | none =>
    obtain rfl:=hl0 rfl
    simp only [bnd,Option.some.injEq] at el; subst el
    cases hi with
    | none =>
      obtain rfl:=hh0 rfl
      simp only [bnd,Option.some.injEq] at eh; subst eh
      simp [Instr.sliceBounds]
    | some i =>
      obtain ⟨v,rfl,hv⟩:=hh i rfl
      have hb:=fun c=>bnd_ok (P:=P) (c:=c) hv eh (y:=cap) (by omega)
      simp [Instr.sliceBounds,hb]
  | some i' =>
    obtain ⟨v',rfl,hv'⟩:=hl i' rfl
    have hb':=fun c=>bnd_ok (P:=P) (c:=c) hv' el h1
    cases hi with
    | none =>
      obtain rfl:=hh0 rfl
      simp only [bnd,Option.some.injEq] at eh; subst eh
      simp [Instr.sliceBounds,hb']
    | some i =>
      obtain ⟨v,rfl,hv⟩:=hh i rfl
      have hb:=fun c=>bnd_ok (P:=P) (c:=c) hv eh (y:=cap) (by omega)
      simp [Instr.sliceBounds,hb,hb']

theorem aSlc_ok {P : Program} {w0 w : World} {β : Nat → Option Loc} {b : Nat → Bool} {s : St} {a : Act} (hs : SRb w0 w β b s a) {t : TypeId} {x r : AV} {u : Value} {lo hi : Option AV} {vl vh : Option Value}
    (hl : ∀ i,lo = some i → ∃ v,vl = some v ∧ VR w β b i v) (hl0 : lo = none → vl = none) (hh : ∀ i,hi = some i → ∃ v,vh = some v ∧ VR w β b i v) (hh0 : hi = none → vh = none)
    (hx : VR w β b x u) (h : aSlc P s t x lo hi = some r) :
    ∃ v',(Instr.sliceAt t u vl vh none).run P w = .ok v' w ∧ VR w β b r v':=by
  unfold aSlc at h
  split at h
  · rename_i es
    split at h
    · rename_i el l hh' e1 e2 e3
      split at h
      · rename_i hc
        obtain ⟨c1,c2,c3,c4⟩:=hc
        simp only [Option.some.injEq] at h; subst h
        obtain ⟨A,cap,z,vss,hv,hcap,hvl,hr⟩:=hx
        subst hv
        have hu:=elOf_under e1
        have hlen:=VRLL.length _ _ hvl
        obtain ⟨n,hn⟩ : ∃ n,szOf P el = some n:=Option.isSome_iff_exists.mp c3
        have hb:=bnds_ok (P:=P) (sl:=true) hl hl0 hh hh0 e2 e3 c1 c2 hcap
        refine ⟨.slice (if cap = l then A else A.map (·.add (l * n))) (hh' - l) (cap - l),?_,?_⟩
        · simp only [Instr.sliceAt,Sem.run_bind,run_underlying hu,Result.andThen_ok,Instr.slice,hb,run_szOf hn,Sem.run_pure]
        · refine ⟨if cap = l then A else A.map (·.add (l * n)),cap - l,z,(vss.take hh').drop l,?_,?_,VRLL.drop l _ _ (VRLL.take hh' _ _ hvl),?_⟩
          · rw [List.length_drop,List.length_take,Nat.min_eq_left c2]
          · rw [List.length_drop,List.length_take,Nat.min_eq_left c2]; omega
          · intro e vs he
            rw [List.getElem?_drop,List.getElem?_take] at he
            split at he
            · rename_i hlt
              obtain ⟨hz,hj⟩:=hr _ vs he
              refine ⟨hz,fun j q hq=>?_⟩
              obtain ⟨g,o,ea,ec,en⟩:=hj j q hq
              have hzn : n = z:=by
                obtain ⟨c,hc1,hc2⟩ : ∃ c,es[l + e]? = some c ∧ VRL w β b c vs:=by
                  have : l + e < es.length:=by omega
                  obtain ⟨v',hv1,hv2⟩:=VRLL.get _ _ (l + e) _ hvl (List.getElem?_eq_getElem this)
                  rw [he] at hv1; simp only [Option.some.injEq] at hv1; subst hv1
                  exact ⟨_,List.getElem?_eq_getElem this,hv2⟩
                have:=c4 c (List.mem_of_getElem? hc1)
                rw [hn] at this
                have hl':=VRL.length _ _ hc2
                simp only [Option.some.injEq] at this
                omega
              have hcl : cap ≠ l:=by omega
              rw [if_neg hcl,ea]
              refine ⟨g,o + l * n,by simp [add_off],?_,en⟩
              rw [hzn,← ec]; congr 2; rw [Nat.add_mul]; omega
            · simp at he
      · simp at h
    · simp at h
  · rename_i id st n
    split at h
    · rename_i z es el l hh' e0 e1 e2 e3
      split at h
      · rename_i hc
        obtain ⟨c1,c2,c3⟩:=hc
        simp only [Option.some.injEq] at h; subst h
        obtain ⟨lc,hlc,hzz,_⟩:=hs.hr.blk id z es e0
        obtain ⟨hb',_,hx⟩:=hx
        obtain ⟨A,cap,hv,hcap,hor⟩:=hx lc hlc
        subst hv
        have hu:=elOf_under e1
        have hb:=bnds_ok (P:=P) (sl:=true) hl hl0 hh hh0 e2 e3 c1 c2 hcap
        refine ⟨.slice (if cap = l then A else A.map (·.add (l * z))) (hh' - l) (cap - l),?_,hb',⟨_,_,_,rfl⟩,fun l' hl'=>?_⟩
        · simp only [Instr.sliceAt,Sem.run_bind,run_underlying hu,Result.andThen_ok,Instr.slice,hb,run_szOf c3,Sem.run_pure]
        · rw [hlc] at hl'; simp only [Option.some.injEq] at hl'; subst hl'
          refine ⟨_,_,rfl,by omega,?_⟩
          by_cases hcl : cap = l
          · exact .inl (by omega)
          · refine .inr ?_
            rcases hor with h' | ⟨h',e,k,hk1,hk2⟩
            · omega
            · subst h'
              rw [if_neg hcl]
              refine ⟨by simp only [Option.map_some,add_off,hzz,Nat.add_mul,Nat.add_assoc],e,k,hk1,?_⟩
              rw [show st + l + (cap - l) = st + cap by omega]; exact hk2
      · simp at h
    · simp at h
  · rename_i c
    have hv : u = .string c:=hx
    subst hv
    split at h
    · rename_i ht
      split at h
      · rename_i l hh' e2 e3
        split at h
        · rename_i hc
          obtain ⟨c1,c2⟩:=hc
          simp only [Option.some.injEq] at h; subst h
          have hb:=bnds_ok (P:=P) (sl:=false) hl hl0 hh hh0 e2 e3 c1 c2 (Nat.le_refl _)
          refine ⟨.string (c.extract l hh'),?_,rfl⟩
          simp only [Instr.sliceAt,Sem.run_bind,run_underlying (isStr ht),Result.andThen_ok,Instr.slice,Option.isSome_none,Bool.false_eq_true,if_false,hb,Sem.run_pure]
        · simp at h
      · simp at h
    · simp at h
  · split at h
    · rename_i el e1 e2 e3
      split at h
      · rename_i hsz
        simp only [Option.some.injEq] at h; subst h
        have hv : u = .slice none 0 0:=hx
        subst hv
        obtain ⟨n,hn⟩:=Option.isSome_iff_exists.mp hsz
        have hb:=bnds_ok (P:=P) (sl:=true) hl hl0 hh hh0 e2 e3 (Nat.le_refl _) (Nat.le_refl _) (Nat.le_refl _)
        refine ⟨.slice none 0 0,?_,rfl⟩
        simp only [Instr.sliceAt,Sem.run_bind,run_underlying (elOf_under e1),Result.andThen_ok,Instr.slice,hb,run_szOf hn,Sem.run_pure,Option.map_none,ite_self,Nat.sub_self]
      · simp at h
    · simp at h
  · simp at h
end Go.Proofs.YtjbbbkfdcegfmaaGreat
