/- The two carry functions; operations taken in pieces; slots that are looked up. -/
import Derived.Test.YtjbbbkfdcegfmaaGreatG0M
import Derived.Laws.Externs

namespace Go.Proofs.YtjbbbkfdcegfmaaGreat
open Go Go.RowKit

def sub64Entry : Array Value → Sem Value:=fun args=>do
  let (x, y, b) ← Extern.MathBitsCarry.three "Sub64" args
  pure (Extern.MathBitsCarry.pair ((x + Extern.MathBitsCarry.m64 - y - b) % Extern.MathBitsCarry.m64) (if x < y + b then 1 else 0))

theorem run_sub64 {P : Program} (x y c : Int) (hx : 0 ≤ x) (hy : 0 ≤ y) (hy' : y < 18446744073709551616) (hc0 : 0 ≤ c) (hc : c ≤ 1) (w : World) :
    (sub64Entry #[.int .u64 x,.int .u64 y,.int .u64 c]).run P w =
      .ok (.tuple #[.int .u64 ((x - y - c) % 18446744073709551616),.int .u64 (if x < y + c then 1 else 0)]) w:=by
  have key : ∀ k : Nat,k ≤ 1 → (sub64Entry #[.int .u64 x,.int .u64 y,.int .u64 (k : Int)]).run P w =
      .ok (Extern.MathBitsCarry.pair ((x.toNat + Extern.MathBitsCarry.m64 - y.toNat - k) % Extern.MathBitsCarry.m64) (if x.toNat < y.toNat + k then 1 else 0)) w:=by
    intro k hk
    have : k = 0 ∨ k = 1:=by omega
    rcases this with rfl | rfl <;> rfl
  obtain ⟨k,rfl⟩:=Int.eq_ofNat_of_zero_le hc0
  rw [key k (by omega)]
  obtain ⟨X,rfl⟩:=Int.eq_ofNat_of_zero_le hx
  obtain ⟨Y,rfl⟩:=Int.eq_ofNat_of_zero_le hy
  have hm : Extern.MathBitsCarry.m64 = 18446744073709551616:=rfl
  simp only [Extern.MathBitsCarry.pair,hm,Int.toNat_natCast]
  have e1 : Int.ofNat ((X + 18446744073709551616 - Y - k) % 18446744073709551616) = ((X : Int) - Y - k) % 18446744073709551616:=by
    rw [Int.ofNat_eq_natCast,Int.natCast_emod]
    have : ((X + 18446744073709551616 - Y - k : Nat) : Int) = (X : Int) - Y - k + 18446744073709551616:=by omega
    rw [this]
    omega
  have e2 : Int.ofNat (if X < Y + k then 1 else 0) = (if (X : Int) < Y + k then 1 else 0):=by
    split <;> split <;> first | rfl | omega
  rw [e1,e2]

/-- What is known of a function that has no body. -/
structure Bodyless (P : Program) (f : FuncId) (e : Array Value → Sem Value) : Prop where
  ex : ∃ fn, P.funcs[f]? = some fn ∧ (fn.name == "runtime.NumGoroutine") = false ∧ fn.body.isNone = true ∧ Extern.findNext fn = none ∧ Extern.find fn = some e

theorem vrl3i {w : World} {β : Nat → Option Loc} {b : Nat → Bool} {k : IntKind} {x y z : Int} {vs : List Value} (h : VRL w β b [.int k x,.int k y,.int k z] vs) : vs = [.int k x,.int k y,.int k z]:=by
  obtain ⟨u,v,q,rfl,h1,h2,h3⟩:=vrl3 h
  rw [show u = _ from h1,show v = _ from h2,show q = _ from h3]

theorem FE.add64 {P : Program} {f : FuncId} (h : Bodyless P f add64Entry) (x y c : Int) (hx : 0 ≤ x) (hy : 0 ≤ y) (hc0 : 0 ≤ c) (hc : c ≤ 1) :
    FE P f [.int .u64 x,.int .u64 y,.int .u64 c] (.tup [.int .u64 ((x + y + c) % 18446744073709551616),.int .u64 ((x + y + c) / 18446744073709551616)]):=by
  intro w β b vs hv
  obtain ⟨fn,hf,h1,h2,h3,h4⟩:=h.ex
  have:=vrl3i hv; subst this
  have hr:=run_callFunc_extern hf h1 h2 h3 h4 #[.int .u64 x,.int .u64 y,.int .u64 c] w
  rw [run_add64 x y c hx hy hc0 hc] at hr
  exact ⟨_,hr,_,rfl,⟨_,_,rfl,rfl,_,_,rfl,rfl,rfl⟩⟩

theorem FE.sub64 {P : Program} {f : FuncId} (h : Bodyless P f sub64Entry) (x y c : Int) (hx : 0 ≤ x) (hy : 0 ≤ y) (hy' : y < 18446744073709551616) (hc0 : 0 ≤ c) (hc : c ≤ 1) :
    FE P f [.int .u64 x,.int .u64 y,.int .u64 c] (.tup [.int .u64 ((x - y - c) % 18446744073709551616),.int .u64 (if x < y + c then 1 else 0)]):=by
  intro w β b vs hv
  obtain ⟨fn,hf,h1,h2,h3,h4⟩:=h.ex
  have:=vrl3i hv; subst this
  have hr:=run_callFunc_extern hf h1 h2 h3 h4 #[.int .u64 x,.int .u64 y,.int .u64 c] w
  rw [run_sub64 x y c hx hy hy' hc0 hc] at hr
  exact ⟨_,hr,_,rfl,⟨_,_,rfl,rfl,_,_,rfl,rfl,rfl⟩⟩

section
variable {P : Program} {ops : Array Oper} {K : St → Prop} {s : St}
/-- The first operations. -/
theorem AOPS.runk (k : Nat) {l : List Oper} {s' : St} (h1 : runOps P ops (l.take k) s = some s') (h : AOPS P ops (l.drop k) K s') : AOPS P ops l K s:=by
  have:=AOPS.runo (rest:=l.drop k) h1 h
  rwa [List.take_append_drop] at this

theorem DP.append {KK : (Nat → AV) → Heap → List Ef → Prop} : ∀ (l1 l2 : List Oper) (i : Nat) (e : Nat → AV) (H : Heap),DP P ops s l1 i e H (fun e' H' f=>DP P ops s l2 (i + l1.length) e' H' fun e'' H'' g=>KK e'' H'' (f ++ g)) → DP P ops s (l1 ++ l2) i e H KK
  | [],l2,i,e,H,h=>by simpa [DP] using h
  | o :: r,l2,i,e,H,⟨f,h1,h2,h3⟩=>by
    refine ⟨f,h1,h2,?_⟩
    refine DP.append r l2 (i + 1) _ _ ?_
    simpa [Nat.add_assoc,Nat.add_comm 1] using h3

theorem DP.runk (k : Nat) {l : List Oper} {i : Nat} {e e' : Nat → AV} {H H' : Heap} {fs : List Ef} {KK : (Nat → AV) → Heap → List Ef → Prop} (h1 : runD1 P ops s (l.take k) i e H [] = some (e',H',fs))
    (h : DP P ops s (l.drop k) (i + (l.take k).length) e' H' fun e'' H'' g=>KK e'' H'' (fs ++ g)) : DP P ops s l i e H KK:=by
  rw [← List.take_append_drop k l]
  refine DP.append _ _ _ _ _ ?_
  have:=DP.run (P:=P) (ops:=ops) (s:=s) (K:=fun e' H' f=>DP P ops s (l.drop k) (i + (l.take k).length) e' H' fun e'' H'' g=>KK e'' H'' (f ++ g)) (l.take k) i e H [] e' H' fs h1 h
  simpa using this
end

/-! One law for each form of value. -/
section
variable (P : Program) (s : St) (ts : Array TypeId) (t el t1 : TypeId) (k k' k'' : IntKind) (x y z : Int)
theorem aBi_str (c : ByteArray) : aBi P s .len ts [.str c] = match ts[0]? with | some t=>if strT P t = true then some (.int .i64 c.size) else none | none=>none:=rfl
theorem aBi_isl (es : List (List AV)) : aBi P s .len ts [.isl es] = match ts[0]? with | some t=>if (elOf P t).isSome then some (.int .i64 es.length) else none | none=>none:=rfl
theorem aBi_osl (id q n : Nat) : aBi P s .len ts [.osl id q n] = match ts[0]? with | some t=>if (elOf P t).isSome ∧ (s.heap id).isSome then some (.int .i64 n) else none | none=>none:=rfl
theorem aBi_nsl : aBi P s .len ts [.nsl] = match ts[0]? with | some t=>if (elOf P t).isSome then some (.int .i64 0) else none | none=>none:=rfl
theorem aBi_cap : aBi P s .cap ts [.nsl] = match ts[0]? with | some t=>if (elOf P t).isSome then some (.int .i64 0) else none | none=>none:=rfl
theorem aBi_max : aBi P s .max ts [.int k x,.int k' y] = if k = k' then some (.int k (if y > x then y else x)) else none:=rfl
theorem aBi_min : aBi P s .min ts [.int k x,.int k' y] = if k = k' then some (.int k (if y < x then y else x)) else none:=rfl
theorem aBi_max3 : aBi P s .max ts [.int k x,.int k' y,.int k'' z] = if k = k' ∧ k = k'' then some (.int k (if z > (if y > x then y else x) then z else (if y > x then y else x))) else none:=rfl
theorem aIdx_isl (es : List (List AV)) : aIdx P s t (.isl es) (.int k x) = match elOf P t with
    | some el=>if 0 ≤ x then (match es[x.toNat]? with | some cs=>if szOf P el = some cs.length ∧ cs.length ≠ 0 then some (.ip cs) else none | none=>none) else none
    | none=>none:=by unfold aIdx; cases elOf P t <;> rfl
theorem aIdx_osl (id q n : Nat) : aIdx P s t (.osl id q n) (.int k x) = match elOf P t with
    | some el=>if 0 ≤ x then (match s.heap id with | some (z,_)=>if x < n ∧ szOf P el = some z ∧ z ≠ 0 then some (.ptr id (q + x.toNat) 0) else none | none=>none) else none
    | none=>none:=by unfold aIdx; cases elOf P t <;> rfl
theorem aSlc_isl (es : List (List AV)) (lo hi : Option AV) : aSlc P s t (.isl es) lo hi = match elOf P t,bnd lo 0,bnd hi es.length with
    | some el,some l,some h=>if l ≤ h ∧ h ≤ es.length ∧ (szOf P el).isSome ∧ (∀ c ∈ es,szOf P el = some c.length) then some (.isl ((es.take h).drop l)) else none
    | _,_,_=>none:=rfl
theorem aSlc_osl (id st n : Nat) (lo hi : Option AV) : aSlc P s t (.osl id st n) lo hi = match s.heap id,elOf P t,bnd lo 0,bnd hi n with
    | some (z,_),some el,some l,some h=>if l ≤ h ∧ h ≤ n ∧ szOf P el = some z then some (.osl id (st + l) (h - l)) else none
    | _,_,_,_=>none:=rfl
theorem aSlc_str (c : ByteArray) (lo hi : Option AV) : aSlc P s t (.str c) lo hi = if strT P t = true then (match bnd lo 0,bnd hi c.size with
    | some l,some h=>if l ≤ h ∧ h ≤ c.size then some (.str (c.extract l h)) else none
    | _,_=>none) else none:=rfl
theorem aSlc_nsl (lo hi : Option AV) : aSlc P s t .nsl lo hi = match elOf P t,bnd lo 0,bnd hi 0 with
    | some el,some 0,some 0=>if (szOf P el).isSome then some .nsl else none
    | _,_,_=>none:=rfl
theorem aSrc_isl (es : List (List AV)) : aSrc P s t1 el (.isl es) = if (elOf P t1).isSome then some es else none:=rfl
theorem aSrc_osl (id st m : Nat) : aSrc P s t1 el (.osl id st m) = match s.heap id with
    | some (z,es)=>if st + m ≤ es.length ∧ (elOf P t1).isSome ∧ szOf P el = some z then some ((es.drop st).take m) else none
    | none=>none:=rfl
theorem aSrc_nsl : aSrc P s t1 el .nsl = if (elOf P t1).isSome then some [] else none:=rfl
theorem aSrc_int : aSrc P s t1 el (.int k x) = match P.underlying t1,szOf P el,byOf P el,zOf P el with
    | some (.int _),some n,some y,some zs=>if 0 < x ∧ x ≤ 9223372036854775807 ∧ x.toNat * y ≤ 281474976710656 ∧ n ≠ 0 ∧ zs.length = n then some (List.replicate x.toNat zs) else none
    | _,_,_,_=>none:=rfl
theorem cells_agg (cs : List AV) : avCells (.agg cs) = some cs:=rfl
theorem cells_int : avCells (.int k x) = some [.int k x]:=rfl
theorem cells_bool (b : Bool) : avCells (.bool b) = some [.bool b]:=rfl
theorem cells_str (c : ByteArray) : avCells (.str c) = some [.str c]:=rfl
theorem cells_nil : avCells .nil = some [.nil]:=rfl
theorem cells_nsl : avCells .nsl = some [.nsl]:=rfl
theorem cells_isl (es : List (List AV)) : avCells (.isl es) = some [.isl es]:=rfl
theorem cells_osl (id q n : Nat) : avCells (.osl id q n) = some [.osl id q n]:=rfl
theorem cells_ptr (id q n : Nat) : avCells (.ptr id q n) = some [.ptr id q n]:=rfl
theorem cells_ip (cs : List AV) : avCells (.ip cs) = some [.ip cs]:=rfl
theorem cells_fn (f : FuncId) (cs : List AV) : avCells (.fn f cs) = some [.fn f cs]:=rfl
theorem one_int : avOne (.int k x) = true:=rfl
theorem one_bool (b : Bool) : avOne (.bool b) = true:=rfl
theorem one_str (c : ByteArray) : avOne (.str c) = true:=rfl
theorem one_nil : avOne .nil = true:=rfl
theorem one_nsl : avOne .nsl = true:=rfl
theorem one_isl (es : List (List AV)) : avOne (.isl es) = true:=rfl
theorem one_osl (id q n : Nat) : avOne (.osl id q n) = true:=rfl
theorem one_ptr (id q n : Nat) : avOne (.ptr id q n) = true:=rfl
theorem one_ip (cs : List AV) : avOne (.ip cs) = true:=rfl
theorem one_fn (f : FuncId) (cs : List AV) : avOne (.fn f cs) = true:=rfl
end
end Go.Proofs.YtjbbbkfdcegfmaaGreat
