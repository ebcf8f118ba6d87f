/- Rows of whole numbers as slices. -/
import Derived.Test.YtjbbbkfdcegfmaaGreatG0N

namespace Go.Proofs.YtjbbbkfdcegfmaaGreat
open Go Go.RowKit

def wd (k : IntKind) (l : List Int) : List (List AV):=l.map fun n=>[.int k n]
def Wd (k : IntKind) (l : List Int) : AV:=.isl (wd k l)

theorem wd_len (k : IntKind) (l : List Int) : (wd k l).length = l.length:=by simp [wd]
theorem wd_cons (k : IntKind) (x : Int) (l : List Int) : wd k (x :: l) = [.int k x] :: wd k l:=rfl
theorem wd_get {k : IntKind} {l : List Int} {i : Nat} {x : Int} (h : l[i]? = some x) : (wd k l)[i]? = some [.int k x]:=by simp [wd,h]
theorem wd_set (k : IntKind) (l : List Int) (i : Nat) (x : Int) : (wd k l).set i [.int k x] = wd k (l.set i x):=by simp [wd,List.map_set]
theorem wd_append (k : IntKind) (l r : List Int) : wd k l ++ wd k r = wd k (l ++ r):=by simp [wd]
theorem wd_one (k : IntKind) (x : Int) : [[AV.int k x]] = wd k [x]:=rfl
theorem wd_fold (k : IntKind) (x : Int) (l : List Int) : [AV.int k x] :: wd k l = wd k (x :: l):=rfl
theorem wd_take (k : IntKind) (l : List Int) (n : Nat) : (wd k l).take n = wd k (l.take n):=by simp [wd]
theorem wd_drop (k : IntKind) (l : List Int) (n : Nat) : (wd k l).drop n = wd k (l.drop n):=by simp [wd]
theorem wd_replicate (k : IntKind) (n : Nat) (x : Int) : List.replicate n [AV.int k x] = wd k (List.replicate n x):=by simp [wd]
theorem wd_cells (k : IntKind) (l : List Int) : ∀ c ∈ wd k l,c.length = 1:=by simp [wd]
theorem wd_app (k : IntKind) (l : List Int) : (∀ c ∈ wd k l,c.length = 1 ∧ c.all avOne = true) = True:=by simp [wd,avOne]
theorem idf_wd (k : IntKind) (l : List Int) : idfLL (wd k l):=by simp [wd,idfLL_iff,idfL,idf]
theorem idf_Wd (k : IntKind) (l : List Int) : idf (Wd k l):=by simp only [Wd,idf]; exact idf_wd k l
theorem idf_Wd' (k : IntKind) (l : List Int) : idf (Wd k l) = True:=eq_true (idf_Wd k l)

section
variable {P : Program} {s : St} {t el : TypeId} {k : IntKind} {l : List Int}
theorem len_Wd (ts : Array TypeId) (h : ts[0]? = some t) (he : elOf P t = some el) : aBi P s .len ts [Wd k l] = some (.int .i64 l.length):=by simp [aBi,Wd,h,he,wd_len]
theorem idx_Wd {k' : IntKind} {i : Int} {x : Int} (he : elOf P t = some el) (hz : szOf P el = some 1) (h0 : 0 ≤ i) (h : l[i.toNat]? = some x) : aIdx P s t (Wd k l) (.int k' i) = some (.ip [.int k x]):=by simp [aIdx,Wd,he,h0,wd_get h,hz]
theorem slc_Wd {lo hi : Option AV} {a b : Nat} (he : elOf P t = some el) (hz : szOf P el = some 1) (h1 : bnd lo 0 = some a) (h2 : bnd hi l.length = some b) (h3 : a ≤ b) (h4 : b ≤ l.length) : aSlc P s t (Wd k l) lo hi = some (Wd k ((l.take b).drop a)):=by
  simp only [aSlc,Wd,he,wd_len,h1,h2,hz]
  rw [if_pos ⟨h3,h4,rfl,fun c hc=>by rw [wd_cells k l c hc]⟩,wd_take,wd_drop]
theorem ld_ip {x : AV} (h : aggT P t = some false) : aLd P s t (.ip [x]) = some x:=by simp [aLd,aLoad,h]
theorem cells_Wd : avCells (Wd k l) = some [Wd k l]:=rfl
theorem one_Wd : avOne (Wd k l) = true:=rfl
theorem src_Wd {t1 : TypeId} (he : (elOf P t1).isSome = true) : aSrc P s t1 el (Wd k l) = some (wd k l):=by simp [aSrc,Wd,he]
/-- Rows of one's own. -/
theorem fz_osl (id st n : Nat) (es : List (List AV)) (h : st + n ≤ es.length) : fz id es (.osl id st n) = .isl ((es.drop st).take n):=by simp [fz,h]
end
theorem fz_wd {id n : Nat} {k : IntKind} {l : List Int} (h : n = l.length) : fz id (wd k l) (.osl id 0 n) = Wd k l:=by
  subst h; simp [fz,wd_len,Wd]; rw [← wd_len k l,List.take_length]
theorem isl_take_wd {k : IntKind} {l : List Int} {n : Nat} (h : l.length ≤ n) : AV.isl ((wd k l).take n) = Wd k l:=by
  rw [List.take_of_length_le (by rw [wd_len]; exact h)]; rfl
theorem fz_Wd (id : Nat) (es : List (List AV)) (k : IntKind) (l : List Int) : fz id es (Wd k l) = Wd k l:=by
  have : ∀ l : List Int,fzLL id es (wd k l) = wd k l:=fun l=>by induction l with
    | nil=>rfl
    | cons x r ih=>rw [wd_cons,fzLL,ih]; rfl
  simp only [Wd,fz,this]

section
variable (P : Program) (t : TypeId)
theorem aEqB_bool (a c : Bool) : aEqB P t (.bool a) (.bool c) = match P.underlying t with | some .bool=>some (a == c) | _=>none:=by
  unfold aEqB; cases P.underlying t with
  | none=>rfl
  | some d=>cases d <;> rfl
theorem aEqB_nsl : aEqB P t .nsl .nsl = match P.underlying t with | some (.slice _)=>some true | _=>none:=by
  unfold aEqB; cases P.underlying t with
  | none=>rfl
  | some d=>cases d <;> rfl
theorem aEqB_nil : aEqB P t .nil .nil = match P.underlying t with | some (.pointer _)=>some true | _=>none:=by
  unfold aEqB; cases P.underlying t with
  | none=>rfl
  | some d=>cases d <;> rfl
end

/-- The nil slice as a row of none. -/
theorem nsl_Wd {w : World} {β : Nat → Option Loc} {b : Nat → Bool} {v : Value} (k : IntKind) (h : VR w β b .nsl v) : VR w β b (Wd k []) v:=by
  have hv : v = .slice none 0 0:=h
  exact ⟨none,0,1,[],by rw [hv]; rfl,Nat.le_refl _,rfl,fun e vs he=>by simp at he⟩

theorem evs_nil (e : Nat → AV) : evs e [] = []:=rfl
theorem evs_cons (e : Nat → AV) (i : Nat) (x : Operand) (r : List (Nat × Operand)) : evs e ((i,x) :: r) = (i,ev e x) :: evs e r:=rfl
theorem upd_ap (e : Nat → AV) (d t : Nat) (v : AV) : upd e d v t = if t = d then v else e t:=rfl
theorem wrap_i64s {x : Int} (h1 : -9223372036854775808 ≤ x) (h2 : x ≤ 9223372036854775807) : IntKind.i64.wrap x = x:=by
  simp only [IntKind.wrap,IntKind.bits,IntKind.signed]; simp; omega
theorem wrap_u64s {x : Int} (h1 : 0 ≤ x) (h2 : x < 18446744073709551616) : IntKind.u64.wrap x = x:=by
  simp only [IntKind.wrap,IntKind.bits,IntKind.signed]; simp; omega
theorem wrap_u32s {x : Int} (h1 : 0 ≤ x) (h2 : x < 4294967296) : IntKind.u32.wrap x = x:=by
  simp only [IntKind.wrap,IntKind.bits,IntKind.signed]; simp; omega
theorem wrap_u8s {x : Int} (h1 : 0 ≤ x) (h2 : x < 256) : IntKind.u8.wrap x = x:=by
  simp only [IntKind.wrap,IntKind.bits,IntKind.signed]; simp; omega
theorem wrap_u64m (x : Int) : IntKind.u64.wrap x = x % 18446744073709551616:=by
  simp only [IntKind.wrap,IntKind.bits,IntKind.signed]; simp
theorem wrap_u32m (x : Int) : IntKind.u32.wrap x = x % 4294967296:=by
  simp only [IntKind.wrap,IntKind.bits,IntKind.signed]; simp

/-- An element of a row, 0 behind its end. -/
def gt (l : List Int) (i : Nat) : Int:=(l[i]?).getD 0
theorem gt_some {l : List Int} {i : Nat} (h : i < l.length) : l[i]? = some (gt l i):=by simp [gt,h]
theorem gt_of {l : List Int} {i : Nat} {x : Int} (h : l[i]? = some x) : gt l i = x:=by simp [gt,h]
theorem gt_ge {l : List Int} {i : Nat} (h : l.length ≤ i) : gt l i = 0:=by simp [gt,h]
theorem wd_getD {k : IntKind} {l : List Int} {i : Nat} (h : i < l.length) : (wd k l)[i]? = some [.int k (gt l i)]:=wd_get (gt_some h)
theorem idx_WdD {P : Program} {s : St} {t el : TypeId} {k k' : IntKind} {l : List Int} {i : Int} (he : elOf P t = some el) (hz : szOf P el = some 1) (h0 : 0 ≤ i) (h : i.toNat < l.length) : aIdx P s t (Wd k l) (.int k' i) = some (.ip [.int k (gt l i.toNat)]):=idx_Wd he hz h0 (gt_some h)

mutual
theorem fz_idf (id : Nat) (es : List (List AV)) : ∀ (x : AV),idf x → fz id es x = x
  | .bool _,_=>rfl
  | .int _ _,_=>rfl
  | .str _,_=>rfl
  | .nil,_=>rfl
  | .nsl,_=>rfl
  | .raw _,_=>rfl
  | .junk,_=>rfl
  | .ptr _ _ _,h=>by simp [idf] at h
  | .osl _ _ _,h=>by simp [idf] at h
  | .ip cs,h=>by simp only [fz,fzL_idf id es cs h]
  | .isl l,h=>by simp only [fz,fzLL_idf id es l h]
  | .agg cs,h=>by simp only [fz,fzL_idf id es cs h]
  | .tup cs,h=>by simp only [fz,fzL_idf id es cs h]
  | .fn _ cs,h=>by simp only [fz,fzL_idf id es cs h]
theorem fzL_idf (id : Nat) (es : List (List AV)) : ∀ (x : List AV),idfL x → fzL id es x = x
  | [],_=>rfl
  | x :: r,h=>by simp only [fzL,fz_idf id es x h.1,fzL_idf id es r h.2]
theorem fzLL_idf (id : Nat) (es : List (List AV)) : ∀ (x : List (List AV)),idfLL x → fzLL id es x = x
  | [],_=>rfl
  | x :: r,h=>by simp only [fzLL,fzL_idf id es x h.1,fzLL_idf id es r h.2]
end

section
variable {P : Program} {s : St}
theorem AWP.frz {c : Code} {K : Exit → St → Prop} (id z : Nat) (es : List (List AV)) (hH : s.heap id = some (z,es)) (h : AWP P c K { s with env:=fun t=>fz id es (s.env t),heap:=hupd s.heap id none }) : AWP P c K s :=
  AWP.freeze hH (fun _=>.inr rfl) (by simp [hupd]) (fun i hi=>.inl (by simp [hupd,hi])) h
theorem AOPS.frz {ops : Array Oper} {l : List Oper} {K : St → Prop} (id z : Nat) (es : List (List AV)) (hH : s.heap id = some (z,es)) (h : AOPS P ops l K { s with env:=fun t=>fz id es (s.env t),heap:=hupd s.heap id none }) : AOPS P ops l K s :=
  AOPS.freeze hH (fun _=>.inr rfl) (by simp [hupd]) (fun i hi=>.inl (by simp [hupd,hi])) h
/-- A block is given up; one slot that speaks of it is told anew. -/
theorem AWP.frz1 {c : Code} {K : Exit → St → Prop} (d id z : Nat) (es : List (List AV)) (v : AV) (hH : s.heap id = some (z,es)) (hv : fz id es (s.env d) = v) (h : AWP P c K { s with env:=upd s.env d v,heap:=hupd s.heap id none }) : AWP P c K s :=
  AWP.freeze hH (fun t=>by
    by_cases ht : t = d
    · subst ht; right; simp [upd,hv]
    · left; simp [upd,ht]) (by simp [hupd]) (fun i hi=>.inl (by simp [hupd,hi])) h
theorem AOPS.frz1 {ops : Array Oper} {l : List Oper} {K : St → Prop} (d id z : Nat) (es : List (List AV)) (v : AV) (hH : s.heap id = some (z,es)) (hv : fz id es (s.env d) = v) (h : AOPS P ops l K { s with env:=upd s.env d v,heap:=hupd s.heap id none }) : AOPS P ops l K s :=
  AOPS.freeze hH (fun t=>by
    by_cases ht : t = d
    · subst ht; right; simp [upd,hv]
    · left; simp [upd,ht]) (by simp [hupd]) (fun i hi=>.inl (by simp [hupd,hi])) h
theorem Fin.cast {fn : Func} {r r' : AV} {H : Heap} {nx : Nat} (h : Fin P fn s r H nx) (e : r = r') : Fin P fn s r' H nx:=e ▸ h
end
end Go.Proofs.YtjbbbkfdcegfmaaGreat
