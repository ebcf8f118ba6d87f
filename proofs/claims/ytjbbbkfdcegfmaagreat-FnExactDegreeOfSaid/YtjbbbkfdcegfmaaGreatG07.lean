/- All operations that yield a value and leave the world as it is, in one function. -/
import Derived.Test.YtjbbbkfdcegfmaaGreatG06
import Derived.Laws.Small
import Derived.Laws.BytesArg

namespace Go.Proofs.YtjbbbkfdcegfmaaGreat
open Go Go.RowKit

/-- len, max, min. -/
def aBi (P : Program) (s : St) (bi : Builtin) (ts : Array TypeId) (xs : List AV) : Option AV :=
  match bi,xs with
  | .len,[.str s]=>match ts[0]? with
    | some t=>if strT P t = true then some (.int .i64 s.size) else none
    | none=>none
  | .len,[.isl es]=>match ts[0]? with
    | some t=>if (elOf P t).isSome then some (.int .i64 es.length) else none
    | none=>none
  | .len,[.osl id _ n]=>match ts[0]? with
    | some t=>if (elOf P t).isSome ∧ (s.heap id).isSome then some (.int .i64 n) else none
    | none=>none
  | .len,[.nsl]=>match ts[0]? with
    | some t=>if (elOf P t).isSome then some (.int .i64 0) else none
    | none=>none
  | .cap,[.nsl]=>match ts[0]? with
    | some t=>if (elOf P t).isSome then some (.int .i64 0) else none
    | none=>none
  | .max,[.int k x,.int k' y]=>if k = k' then some (.int k (if y > x then y else x)) else none
  | .min,[.int k x,.int k' y]=>if k = k' then some (.int k (if y < x then y else x)) else none
  | .max,[.int k x,.int k' y,.int k'' z]=>if k = k' ∧ k = k'' then some (.int k (if z > (if y > x then y else x) then z else (if y > x then y else x))) else none
  | _,_=>none

/-- The bytes of a row of them. -/
def numsOf : List (List AV) → Option (List Int)
  | []=>some []
  | [.int .u8 n] :: r=>(numsOf r).map (n :: ·)
  | _=>none
/-- One whole number made another one; bytes made a string. -/
def aConv (P : Program) (src dst : TypeId) (x : AV) : Option AV :=
  match x,P.underlying src,P.underlying dst with
  | .int _ n,some _,some (.int k)=>some (.int k (k.wrap n))
  | .isl es,some (.slice e),some .string=>match P.underlying e,numsOf es with
    | some (.int .u8),some xs=>some (.str (strOfNums xs))
    | _,_=>none
  | _,_,_=>none

/-- A field of a struct's value. -/
def aFld (P : Program) (t : TypeId) (x : AV) (f : Nat) : Option AV :=
  match x,fldOf P t f with
  | .agg cs,some (off,n,ft)=>match aggT P ft with
    | some true=>if off + n ≤ cs.length then some (.agg ((cs.drop off).take n)) else none
    | some false=>cs[off]?
    | none=>none
  | _,_=>none

/-- What an operation yields that leaves the world as it is. -/
def opVal (P : Program) (s : St) (op : Op) : Option AV :=
  match op with
  | .move x | .assign x=>some (ev s.env x)
  | .pick c x y=>match ev s.env c with
    | .bool t=>some (if t then ev s.env x else ev s.env y)
    | _=>none
  | .build t ps=>aBuild P t (evs s.env ps.toList)
  | .load t x=>aLd P s t (ev s.env x)
  | .binOp op t x y _=>match aBin op (ev s.env x) (ev s.env y) with
    | some r=>some r
    | none=>aEqS P op t (ev s.env x) (ev s.env y)
  | .unOp op _ x=>aUn op (ev s.env x)
  | .convert src dst x=>aConv P src dst (ev s.env x)
  | .extract x i=>match ev s.env x with
    | .tup vs=>vs[i]?
    | _=>none
  | .fieldAddr t x f=>aField P s t (ev s.env x) f
  | .field t x f=>aFld P t (ev s.env x) f
  | .indexAddr t x i=>aIdx P s t (ev s.env x) (ev s.env i)
  | .index t x i=>aSix P t (ev s.env x) (ev s.env i)
  | .slice t x lo hi none=>aSlc P s t (ev s.env x) (lo.map (ev s.env)) (hi.map (ev s.env))
  | .nilCheck x=>match ev s.env x with
    | .ptr id e o=>if (s.heap id).isSome then some (.ptr id e o) else none
    | .ip cs=>some (.ip cs)
    | .fn f cs=>some (.fn f cs)
    | _=>none
  | .makeFunc fn first caps=>match fn with
    | .func f=>if first.size = 0 then some (.fn f (caps.toList.map (ev s.env))) else none
    | _=>none
  | .call c=>match c.callee with
    | .builtin bi=>aBi P s bi c.argTypes (c.args.toList.map (ev s.env))
    | _=>none
  | _=>none

section
variable {P : Program} {w0 w : World} {β : Nat → Option Loc} {b : Nat → Bool} {s : St} {a : Act}

theorem evl_ok (hs : SRb w0 w β b s a) : ∀ (l : List Operand),VRL w β b (l.map (ev s.env)) (l.map a.eval)
  | []=>rfl
  | x :: r=>⟨a.eval x,r.map a.eval,rfl,ev_ok hs x,evl_ok hs r⟩

theorem numsOf_ok {w : World} {β : Nat → Option Loc} {b : Nat → Bool} : ∀ (es : List (List AV)) (xs : List Int) (vss : List (List Value)),numsOf es = some xs → VRLL w β b es vss →
    xs.length = es.length ∧ ∀ i,i < es.length → True ∧ vss[i]? = some [.int .u8 (xs.getD i 0)]
  | [],xs,vss,h,hl=>by
    simp only [numsOf,Option.some.injEq] at h; subst h
    exact ⟨rfl,fun i hi=>by simp at hi⟩
  | c :: r,xs,vss,h,hl=>by
    obtain ⟨v,vr,rfl,hv,hr⟩:=hl
    unfold numsOf at h
    split at h
    · rename_i heq; simp at heq
    · rename_i n r' heq
      simp only [List.cons.injEq] at heq
      obtain ⟨rfl,rfl⟩:=heq
      cases hn : numsOf r with
      | none=>rw [hn] at h; simp at h
      | some ys =>
        rw [hn] at h
        simp only [Option.map_some,Option.some.injEq] at h; subst h
        obtain ⟨i1,i2⟩:=numsOf_ok r ys vr hn hr
        obtain ⟨x,q,rfl,hx,hq⟩:=hv
        obtain rfl : x = .int .u8 n:=hx
        obtain rfl : q = []:=hq
        refine ⟨by simp [i1],fun i hi=>⟨trivial,?_⟩⟩
        cases i with
        | zero=>rfl
        | succ i=>simpa using (i2 i (by simpa using hi)).2
    · simp at h

theorem aConv_ok {b : Nat → Bool} {src dst : TypeId} {x r : AV} {u : Value} (hx : VR w β b x u) (h : aConv P src dst x = some r) : ∃ v,(convert src dst u).run P w = .ok v w ∧ VR w β b r v:=by
  unfold aConv at h
  split at h
  · rename_i k' n d k e1 e2
    simp only [Option.some.injEq] at h; subst h
    obtain rfl : u = .int k' n:=hx
    have hk : P.intKind dst = k:=by simp [Program.intKind,e2]
    have:=run_convert_int (P:=P) w src dst k' n (by simp [e1]) (by rw [hk]; exact e2)
    rw [hk] at this
    exact ⟨_,this,rfl⟩
  · rename_i es e e1 e2
    split at h
    · rename_i xs e3 e4
      simp only [Option.some.injEq] at h; subst h
      obtain ⟨A,cap,z,vss,rfl,hc,hl,hr⟩:=hx
      obtain ⟨n1,n2⟩:=numsOf_ok es xs vss e4 hl
      refine ⟨_,?_,rfl⟩
      cases A with
      | none =>
        have h0 : es.length = 0:=by
          rcases Nat.eq_zero_or_pos es.length with h0 | h0
          · exact h0
          · obtain ⟨q1,q2⟩:=n2 0 (by omega)
            obtain ⟨_,h⟩:=hr 0 _ q2
            obtain ⟨g,o,ha,_⟩:=h 0 _ rfl
            simp at ha
        rw [run_convert_bytes_nil w src e e1 e3 _ _ dst e2]
        have : xs = []:=List.length_eq_zero_iff.1 (by omega)
        subst this; rfl
      | some A =>
        rcases Nat.eq_zero_or_pos es.length with h0 | h0
        · have : xs = []:=List.length_eq_zero_iff.1 (by omega)
          subst this
          rw [h0,run_convert_bytes_string w src dst e _ 0 cap e1 e3 e2,run_bytesToString w A 0 cap [] (by simp [loadCells,loadCellsFrom,Sem.run_pure])]
          rfl
        · have hA : ∀ i,i < es.length → ∃ g o,A = ⟨g,o,none⟩ ∧ w.cell? ⟨g,o + i,none⟩ = some (.int .u8 (xs.getD i 0)):=fun i hi=>by
            obtain ⟨q1,q2⟩:=n2 i hi
            obtain ⟨hz,h⟩:=hr i _ q2
            obtain ⟨g,o,ha,hcell,_⟩:=h 0 _ rfl
            simp only [Option.some.injEq] at ha
            have : z = 1:=by simpa using hz.symm
            rw [this] at hcell
            exact ⟨g,o,ha,by simpa using hcell⟩
          obtain ⟨g,o,ha,_⟩:=hA 0 h0
          subst ha
          refine run_convert_bytes_arg w src e e1 e3 g o es.length cap xs n1 (fun i hi=>?_) dst e2
          obtain ⟨g',o',ha,hcell⟩:=hA i hi
          simp only [Addr.mk.injEq] at ha
          rw [ha.1,ha.2.1]; exact hcell
    · simp at h
  · simp at h

theorem aFld_ok {b : Nat → Bool} {t : TypeId} {f : Nat} {x r : AV} {u : Value} (hx : VR w β b x u) (h : aFld P t x f = some r) : ∃ v,(Instr.field t u f).run P w = .ok v w ∧ VR w β b r v:=by
  unfold aFld at h
  split at h
  · rename_i cs off n ft hf
    obtain ⟨fs,fd,h1,h2,h3,h4,h5⟩:=fldOf_under hf
    obtain ⟨us,rfl,hus⟩:=hx
    have hl:=VRL.length _ _ hus
    split at h
    · rename_i ha
      split at h
      · rename_i hle
        simp only [Option.some.injEq] at h; subst h
        refine ⟨.agg ((us.toList.drop off).take n).toArray,?_,_,rfl,by simpa using VRL.take n _ _ (VRL.drop off _ _ hus)⟩
        have:=part_ok (P:=P) (w:=w) (off:=off) (us:=us.toList) h5 ha (by omega) (.inl rfl)
        simp only [Array.toArray_toList,mkV,if_true] at this
        simp only [Instr.field,Sem.run_bind,run_underlying h1,Result.andThen_ok,h2,asAgg,Sem.run_pure,h3,h4,this]
      · simp at h
    · rename_i ha
      obtain ⟨v,hv,hr⟩:=VRL.get _ _ off r hus h
      refine ⟨v,?_,hr⟩
      have hv' : us[off]? = some v:=by simpa using hv
      simp only [Instr.field,Sem.run_bind,run_underlying h1,Result.andThen_ok,h2,asAgg,Sem.run_pure,h3,h4,part,run_aggT ha,Bool.false_eq_true,if_false,hv']
    · simp at h
  · simp at h

theorem vrl1 {b : Nat → Bool} {x : AV} {vs : List Value} (h : VRL w β b [x] vs) : ∃ v,vs = [v] ∧ VR w β b x v:=by
  obtain ⟨v,r,rfl,hv,hr⟩:=h; obtain rfl : r = []:=hr; exact ⟨v,rfl,hv⟩
theorem vrl2 {b : Nat → Bool} {x y : AV} {vs : List Value} (h : VRL w β b [x,y] vs) : ∃ u v,vs = [u,v] ∧ VR w β b x u ∧ VR w β b y v:=by
  obtain ⟨v,r,rfl,hv,hr⟩:=h; obtain ⟨v',rfl,hv'⟩:=vrl1 hr; exact ⟨v,v',rfl,hv,hv'⟩
theorem vrl3 {b : Nat → Bool} {x y z : AV} {vs : List Value} (h : VRL w β b [x,y,z] vs) : ∃ u v q,vs = [u,v,q] ∧ VR w β b x u ∧ VR w β b y v ∧ VR w β b z q:=by
  obtain ⟨v,r,rfl,hv,hr⟩:=h; obtain ⟨v',q,rfl,hv',hq⟩:=vrl2 hr; exact ⟨v,v',q,rfl,hv,hv',hq⟩

theorem lenSl {t : TypeId} {el : TypeId} (h : elOf P t = some el) (ts : Array TypeId) (ht : ts[0]? = some t) (A : Option Addr) (n c : Nat) (ty : TypeId) : (Builtin.len_ ts ty [.slice A n c].toArray).run P w = .ok (goInt n) w:=by
  simp [Builtin.len_,ht,run_underlying (elOf_under h)]

theorem capSl {t : TypeId} {el : TypeId} (h : elOf P t = some el) (ts : Array TypeId) (ht : ts[0]? = some t) (A : Option Addr) (n c : Nat) (ty : TypeId) : (Builtin.cap_ ts ty [.slice A n c].toArray).run P w = .ok (goInt c) w:=by
  simp [Builtin.cap_,ht,run_underlying (elOf_under h)]

theorem aBi_ok (hs : SRb w0 w β b s a) {bi : Builtin} {ts : Array TypeId} {ty : TypeId} {cs : Array Bool} {xs : List AV} {vs : List Value} {r : AV} (hx : VRL w β b xs vs) (h : aBi P s bi ts xs = some r) :
    ∃ v,(builtin bi ts ty cs vs.toArray).run P w = .ok (.value v) w ∧ VR w β b r v:=by
  unfold aBi at h
  split at h
  · rename_i c
    obtain ⟨v,rfl,hv⟩:=vrl1 hx
    obtain rfl : v = .string c:=hv
    split at h
    · rename_i t ht
      split at h
      · rename_i hst
        simp only [Option.some.injEq] at h; subst h
        exact ⟨.int .i64 c.size,by simp [builtin,Builtin.len_,ht,run_underlying (isStr hst),goInt],rfl⟩
      · simp at h
    · simp at h
  · rename_i es
    obtain ⟨v,rfl,hv⟩:=vrl1 hx
    obtain ⟨A,cap,z,vss,rfl,_⟩:=hv
    split at h
    · rename_i t ht
      split at h
      · rename_i hst
        obtain ⟨el,hel⟩:=Option.isSome_iff_exists.mp hst
        simp only [Option.some.injEq] at h; subst h
        exact ⟨.int .i64 es.length,by simp only [builtin,Sem.run_bind,lenSl hel ts ht A es.length cap ty,Result.andThen_ok]; rfl,rfl⟩
      · simp at h
    · simp at h
  · rename_i id q n
    obtain ⟨v,rfl,hv⟩:=vrl1 hx
    split at h
    · rename_i t ht
      split at h
      · rename_i hst
        obtain ⟨hst,hl⟩:=hst
        obtain ⟨⟨z,es⟩,hz⟩:=Option.isSome_iff_exists.mp hl
        obtain ⟨l,hl',_⟩:=hs.hr.blk id z es hz
        obtain ⟨A,cap,rfl,_⟩:=hv.2.2 l hl'
        obtain ⟨el,hel⟩:=Option.isSome_iff_exists.mp hst
        simp only [Option.some.injEq] at h; subst h
        exact ⟨.int .i64 n,by simp only [builtin,Sem.run_bind,lenSl hel ts ht A n cap ty,Result.andThen_ok]; rfl,rfl⟩
      · simp at h
    · simp at h
  · obtain ⟨v,rfl,hv⟩:=vrl1 hx
    obtain rfl : v = .slice none 0 0:=hv
    split at h
    · rename_i t ht
      split at h
      · rename_i hst
        obtain ⟨el,hel⟩:=Option.isSome_iff_exists.mp hst
        simp only [Option.some.injEq] at h; subst h
        exact ⟨.int .i64 0,by simp only [builtin,Sem.run_bind,lenSl hel ts ht none 0 0 ty,Result.andThen_ok]; rfl,rfl⟩
      · simp at h
    · simp at h
  · obtain ⟨v,rfl,hv⟩:=vrl1 hx
    obtain rfl : v = .slice none 0 0:=hv
    split at h
    · rename_i t ht
      split at h
      · rename_i hst
        obtain ⟨el,hel⟩:=Option.isSome_iff_exists.mp hst
        simp only [Option.some.injEq] at h; subst h
        exact ⟨.int .i64 0,by simp only [builtin,Sem.run_bind,capSl hel ts ht none 0 0 ty,Result.andThen_ok]; rfl,rfl⟩
      · simp at h
    · simp at h
  · rename_i k x k' y
    obtain ⟨u,v,rfl,hu,hv⟩:=vrl2 hx
    obtain rfl : u = .int k x:=hu
    obtain rfl : v = .int k' y:=hv
    split at h
    · rename_i hk
      simp only [Option.some.injEq] at h; subst h
      exact ⟨_,by simp only [builtin,Sem.run_bind,run_max_int2,Result.andThen_ok]; rfl,rfl⟩
    · simp at h
  · rename_i k x k' y
    obtain ⟨u,v,rfl,hu,hv⟩:=vrl2 hx
    obtain rfl : u = .int k x:=hu
    obtain rfl : v = .int k' y:=hv
    split at h
    · rename_i hk
      simp only [Option.some.injEq] at h; subst h
      exact ⟨_,by simp only [builtin,Sem.run_bind,run_min_int2,Result.andThen_ok]; rfl,rfl⟩
    · simp at h
  · rename_i k x k' y k'' z
    obtain ⟨u,v,q,rfl,hu,hv,hq⟩:=vrl3 hx
    obtain rfl : u = .int k x:=hu
    obtain rfl : v = .int k' y:=hv
    obtain rfl : q = .int k'' z:=hq
    split at h
    · rename_i hk
      simp only [Option.some.injEq] at h; subst h
      exact ⟨_,by simp [builtin,Builtin.max_,Builtin.max2],rfl⟩
    · simp at h
  · simp at h

theorem opVal_ok (hs : SRb w0 w β b s a) {o : Oper} {r : AV} (h : opVal P s o.op = some r) : ∃ v,(execOp a.eval o).run P w = .ok (.value v) w ∧ VR w β b r v:=by
  have lift : ∀ (m : Sem Value) (v : Value),m.run P w = .ok v w → (do pure (.value (← m)) : Sem Next).run P w = .ok (.value v) w:=fun m v hm=>by simp [hm]
  obtain ⟨dst,op,type,pos,after,guard⟩:=o
  simp only [] at h
  cases op <;> simp only [opVal,reduceCtorEq] at h
  case move x=>simp only [Option.some.injEq] at h; subst h; exact ⟨_,rfl,ev_ok hs x⟩
  case assign x=>simp only [Option.some.injEq] at h; subst h; exact ⟨_,rfl,ev_ok hs x⟩
  case pick c x y =>
    split at h
    · rename_i t hc
      simp only [Option.some.injEq] at h; subst h
      have:=ev_ok hs c
      rw [hc] at this
      have hc' : a.eval c = .bool t:=this
      refine ⟨if t then a.eval x else a.eval y,?_,?_⟩
      · simp only [execOp,hc',asBool,Sem.run_bind,Sem.run_pure,Result.andThen_ok]
      · cases t <;> exact ev_ok hs _
    · simp at h
  case build t ps =>
    obtain ⟨v,hv,hr⟩:=aBuild_ok (P:=P) (w:=w) (β:=β) (b:=b) (t:=t) (ps:=evs s.env ps.toList) (qs:=ps.toList.map fun p=>(p.1,a.eval p.2)) (r:=r) (by simp [evs]) (by
      have:=evl_ok hs (ps.toList.map (·.2))
      simpa [evs,List.map_map,Function.comp_def] using this) h
    refine ⟨v,lift _ v ?_,hr⟩
    have e : (ps.map fun (i,x)=>(i,a.eval x)) = (ps.toList.map fun p=>(p.1,a.eval p.2)).toArray:=by
      apply Array.ext'; simp
    rw [e]; exact hv
  case load t x =>
    obtain ⟨v,hv,hr⟩:=aLd_ok hs (ev_ok hs x) h
    exact ⟨v,lift _ v hv,hr⟩
  case binOp op t x y ty =>
    split at h
    · rename_i r' hb
      simp only [Option.some.injEq] at h; subst h
      obtain ⟨v,hv,hr⟩:=aBin_ok (P:=P) (t:=t) (X:=x) (Y:=y) (ev_ok hs x) (ev_ok hs y) hb
      exact ⟨v,lift _ v hv,hr⟩
    · obtain ⟨v,hv,hr⟩:=aEqS_ok (P:=P) (t:=t) (X:=x) (Y:=y) (ev_ok hs x) (ev_ok hs y) h
      exact ⟨v,lift _ v hv,hr⟩
  case unOp op t x =>
    obtain ⟨v,hv,hr⟩:=aUn_ok (P:=P) (ev_ok hs x) h
    exact ⟨v,lift _ v hv,hr⟩
  case convert src dst x =>
    obtain ⟨v,hv,hr⟩:=aConv_ok (P:=P) (ev_ok hs x) h
    exact ⟨v,lift _ v hv,hr⟩
  case extract x i =>
    split at h
    · rename_i vs hx
      have:=ev_ok hs x
      rw [hx] at this
      obtain ⟨us,hu,hl⟩:=this
      obtain ⟨v,hv,hr⟩:=VRL.get _ _ i r hl h
      refine ⟨v,lift _ v ?_,hr⟩
      rw [hu]
      have : us[i]? = some v:=by simpa using hv
      simp [Instr.extract,this]
    · simp at h
  case fieldAddr t x f =>
    obtain ⟨v,hv,hr⟩:=aField_ok hs (ev_ok hs x) h
    exact ⟨v,lift _ v hv,hr⟩
  case field t x f =>
    obtain ⟨v,hv,hr⟩:=aFld_ok (P:=P) (ev_ok hs x) h
    exact ⟨v,lift _ v hv,hr⟩
  case indexAddr t x i =>
    obtain ⟨v,hv,hr⟩:=aIdx_ok hs (ev_ok hs x) (ev_ok hs i) h
    exact ⟨v,lift _ v hv,hr⟩
  case index t x i =>
    obtain ⟨v,hv,hr⟩:=aSix_ok (P:=P) (ev_ok hs x) (ev_ok hs i) h
    exact ⟨v,lift _ v hv,hr⟩
  case slice t x lo hi mx =>
    cases mx with
    | some m=>simp at h
    | none =>
      simp only [] at h
      obtain ⟨v,hv,hr⟩:=aSlc_ok (P:=P) hs (vl:=lo.map a.eval) (vh:=hi.map a.eval) (lo:=lo.map (ev s.env)) (hi:=hi.map (ev s.env))
        (by cases lo with
            | none=>intro i hi; simp at hi
            | some l=>intro i hi; simp only [Option.map_some,Option.some.injEq] at hi; subst hi; exact ⟨_,rfl,ev_ok hs l⟩)
        (by cases lo <;> simp)
        (by cases hi with
            | none=>intro i hi; simp at hi
            | some l=>intro i hi; simp only [Option.map_some,Option.some.injEq] at hi; subst hi; exact ⟨_,rfl,ev_ok hs l⟩)
        (by cases hi <;> simp) (ev_ok hs x) h
      exact ⟨v,lift _ v hv,hr⟩
  case nilCheck x =>
    have he:=ev_ok hs x
    split at h
    · rename_i id e o hx
      split at h
      · rename_i hl
        simp only [Option.some.injEq] at h; subst h
        rw [hx] at he
        obtain ⟨⟨z,es⟩,hz⟩:=Option.isSome_iff_exists.mp hl
        obtain ⟨l,hl',_⟩:=hs.hr.blk id z es hz
        have hv:=he.2.2 l hl'
        refine ⟨a.eval x,?_,he⟩
        simp only [execOp,hv]; rfl
      · simp at h
    · rename_i cs hx
      simp only [Option.some.injEq] at h; subst h
      rw [hx] at he
      have he':=he
      obtain ⟨g,o,vs,hv,_⟩:=he
      refine ⟨a.eval x,?_,he'⟩
      simp only [execOp,hv]; rfl
    · rename_i f cs hx
      simp only [Option.some.injEq] at h; subst h
      rw [hx] at he
      have he':=he
      obtain ⟨vs,hv,_⟩:=he
      refine ⟨a.eval x,?_,he'⟩
      simp only [execOp,hv]; rfl
    · simp at h
  case makeFunc fn first caps =>
    split at h
    · rename_i f
      split at h
      · rename_i h0
        simp only [Option.some.injEq] at h; subst h
        refine ⟨.func (.func f) (first.map a.eval) (caps.map a.eval),rfl,caps.map a.eval,?_,?_⟩
        · have : first = #[]:=Array.eq_empty_of_size_eq_zero h0
          rw [this]; simp
        · have:=evl_ok hs caps.toList
          simpa using this
      · simp at h
    · simp at h
  case call c =>
    split at h
    · rename_i bi hc
      obtain ⟨v,hv,hr⟩:=aBi_ok (P:=P) (ty:=type) (cs:=c.args.map fun | .const _=>true | _=>false) hs (evl_ok hs c.args.toList) h
      refine ⟨v,?_,hr⟩
      simp only [execOp,resolve,hc,Sem.run_bind,Sem.run_pure,Result.andThen_ok,invoke]
      have e : c.args.map a.eval = (c.args.toList.map a.eval).toArray:=by apply Array.ext'; simp
      rw [e]; exact hv
    · simp at h
end
end Go.Proofs.YtjbbbkfdcegfmaaGreat
