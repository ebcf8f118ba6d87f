/- Lists: rows that are flattened, parts that are laid over; and structs and slices that are built. -/
import Derived.Test.YtjbbbkfdcegfmaaGreatG03

namespace Go.Proofs.YtjbbbkfdcegfmaaGreat
open Go Go.RowKit

def splice {α : Type} (l : List α) (off : Nat) (vs : List α) : List α:=l.take off ++ vs ++ l.drop (off + vs.length)

theorem splice_length {α : Type} {l : List α} {off : Nat} {vs : List α} (h : off + vs.length ≤ l.length) : (splice l off vs).length = l.length:=by
  simp only [splice,List.length_append,List.length_take,List.length_drop]; omega

theorem splice_in {α : Type} {l : List α} {off : Nat} {vs : List α} (h : off + vs.length ≤ l.length) {j : Nat} (hj : j < vs.length) : (splice l off vs)[off + j]? = vs[j]?:=by
  unfold splice
  rw [List.append_assoc,List.getElem?_append_right (by simp; omega),List.length_take,Nat.min_eq_left (by omega),Nat.add_sub_cancel_left,List.getElem?_append_left hj]

theorem splice_out {α : Type} {l : List α} {off : Nat} {vs : List α} (h : off + vs.length ≤ l.length) {k : Nat} (hk : k < off ∨ off + vs.length ≤ k) : (splice l off vs)[k]? = l[k]?:=by
  unfold splice
  rcases hk with hk | hk
  · rw [List.append_assoc,List.getElem?_append_left (by simp; omega),List.getElem?_take,if_pos hk]
  · rw [List.getElem?_append_right (by simp; omega),List.length_append,List.length_take,Nat.min_eq_left (by omega),List.getElem?_drop]
    congr 1; omega

theorem foldl_set (vs : List Value) : ∀ (off k : Nat) (cells : Array Value),off + k + vs.length ≤ cells.size →
    ((vs.zipIdx k).foldl (fun cs (x : Value × Nat)=>cs.setIfInBounds (off + x.2) x.1) cells).toList = splice cells.toList (off + k) vs:=by
  induction vs with
  | nil=>intro off k cells _; simp [splice]
  | cons v r ih =>
    intro off k cells h
    simp only [List.zipIdx_cons,List.foldl_cons]
    rw [ih off (k + 1) _ (by simp at h ⊢; omega)]
    simp only [Array.toList_setIfInBounds]
    have:=list_seg_step cells.toList (off + k) v r (by simp at h ⊢; omega)
    simp only [splice]
    rw [show off + (k + 1) = off + k + 1 by omega,this]
    simp [Nat.add_assoc]

theorem VRL.splice {w : World} {β : Nat → Option Loc} {b : Nat → Bool} {xs ys : List AV} {us vs : List Value} (h : VRL w β b xs us) (k : VRL w β b ys vs) (off : Nat) : VRL w β b (splice xs off ys) (splice us off vs):=by
  unfold YtjbbbkfdcegfmaaGreat.splice
  rw [VRL.length _ _ k]
  exact VRL.append _ _ _ _ (VRL.append _ _ _ _ (VRL.take off _ _ h) k) (VRL.drop _ _ _ h)

/-- The cells of a value. -/
def avCells : AV → Option (List AV)
  | .agg cs=>some cs
  | .raw v=>match v with
    | .map g=>some [.raw (.map g)]
    | .slice a n c=>some [.raw (.slice a n c)]
    | _=>none
  | .junk=>none
  | .tup _=>none
  | x=>some [x]

theorem avCells_ok {w : World} {β : Nat → Option Loc} {b : Nat → Bool} {x : AV} {v : Value} {cs : List AV} (hx : VR w β b x v) (h : avCells x = some cs) : VRL w β b cs v.cells.toList:=by
  cases x <;> simp only [avCells,Option.some.injEq,reduceCtorEq] at h
  case agg c=>subst h; obtain ⟨vs,rfl,hl⟩:=hx; exact hl
  case ptr id e o=>subst h; have hx':=hx; obtain ⟨_,⟨p,rfl⟩,_⟩:=hx; exact ⟨_,[],rfl,hx',rfl⟩
  case osl id s n=>subst h; have hx':=hx; obtain ⟨_,⟨p,k,c,rfl⟩,_⟩:=hx; exact ⟨_,[],rfl,hx',rfl⟩
  case bool c=>subst h; obtain rfl : v = .bool c:=hx; exact ⟨_,[],rfl,rfl,rfl⟩
  case int k n=>subst h; obtain rfl : v = .int k n:=hx; exact ⟨_,[],rfl,rfl,rfl⟩
  case str s=>subst h; obtain rfl : v = .string s:=hx; exact ⟨_,[],rfl,rfl,rfl⟩
  case nil=>subst h; obtain rfl : v = .pointer none:=hx; exact ⟨_,[],rfl,rfl,rfl⟩
  case nsl=>subst h; obtain rfl : v = .slice none 0 0:=hx; exact ⟨_,[],rfl,rfl,rfl⟩
  case ip c=>subst h; have hx':=hx; obtain ⟨g,o,vs,rfl,_⟩:=hx; exact ⟨_,[],rfl,hx',rfl⟩
  case isl c=>subst h; have hx':=hx; obtain ⟨a,cap,z,vss,rfl,_⟩:=hx; exact ⟨_,[],rfl,hx',rfl⟩
  case fn f c=>subst h; have hx':=hx; obtain ⟨vs,rfl,_⟩:=hx; exact ⟨_,[],rfl,hx',rfl⟩
  case raw u =>
    split at h
    · simp only [Option.some.injEq] at h; subst h; obtain rfl : _ = v:=hx; exact ⟨_,[],rfl,rfl,rfl⟩
    · simp only [Option.some.injEq] at h; subst h; obtain rfl : _ = v:=hx; exact ⟨_,[],rfl,rfl,rfl⟩
    · simp at h

/-- Every cell is one. -/
def avOne : AV → Bool
  | .agg _ | .junk | .tup _=>false
  | .raw v=>match v with
    | .map _=>true
    | .slice _ _ _=>true
    | _=>false
  | _=>true

theorem avOne_ok {w : World} {β : Nat → Option Loc} {b : Nat → Bool} {x : AV} {v : Value} (hx : VR w β b x v) (h : avOne x = true) : v.oneCell' = true:=by
  cases x <;> simp only [avOne,reduceCtorEq,Bool.false_eq_true] at h
  case ptr id e o=>obtain ⟨_,⟨p,rfl⟩,_⟩:=hx; rfl
  case osl id s n=>obtain ⟨_,⟨p,k,c,rfl⟩,_⟩:=hx; rfl
  case bool c=>obtain rfl : v = .bool c:=hx; rfl
  case int k n=>obtain rfl : v = .int k n:=hx; rfl
  case str s=>obtain rfl : v = .string s:=hx; rfl
  case nil=>obtain rfl : v = .pointer none:=hx; rfl
  case nsl=>obtain rfl : v = .slice none 0 0:=hx; rfl
  case ip c=>obtain ⟨g,o,vs,rfl,_⟩:=hx; rfl
  case isl c=>obtain ⟨a,cap,z,vss,rfl,_⟩:=hx; rfl
  case fn f c=>obtain ⟨vs,rfl,_⟩:=hx; rfl
  case raw u =>
    split at h
    · obtain rfl : _ = v:=hx; rfl
    · obtain rfl : _ = v:=hx; rfl
    · simp at h

theorem avOnes_ok {w : World} {β : Nat → Option Loc} {b : Nat → Bool} : ∀ {xs : List AV} {vs : List Value},VRL w β b xs vs → xs.all avOne = true → ∀ v ∈ vs,v.oneCell' = true
  | [],_,h,_=>by rw [show _ = [] from h]; simp
  | x :: xs,_,⟨v,r,e,hv,hr⟩,ha=>by
    simp only [List.all_cons,Bool.and_eq_true] at ha
    rw [e]
    intro u hu
    rcases List.mem_cons.mp hu with rfl | hu
    · exact avOne_ok hv ha.1
    · exact avOnes_ok hr ha.2 u hu

/-- Parts laid over cells: where a part goes and how many cells it has, 'pl' tells. -/
def aFill (pl : Nat → Option (Nat × Nat)) (cells : List AV) : List (Nat × AV) → Option (List AV)
  | []=>some cells
  | (i,x) :: rest=>match pl i,avCells x with
    | some (off,n),some cs=>if cs.length = n ∧ off + n ≤ cells.length then aFill pl (splice cells off cs) rest else none
    | _,_=>none

theorem aFill_ok {w : World} {β : Nat → Option Loc} {b : Nat → Bool} {pl place : Nat → Option (Nat × Nat)} (hpl : ∀ i r,pl i = some r → place i = some r) :
    ∀ (ps : List (Nat × AV)) (qs : List (Nat × Value)) (acs : List AV) (cells : Array Value) (r : List AV),VRL w β b acs cells.toList →
      qs.map (·.1) = ps.map (·.1) → VRL w β b (ps.map (·.2)) (qs.map (·.2)) → aFill pl acs ps = some r → ∃ cs,Instr.fill place cells qs = some cs ∧ VRL w β b r cs.toList
  | [],qs,acs,cells,r,hv,h1,h2,h=>by
    have : qs = []:=by simpa using h1
    subst this
    simp only [aFill,Option.some.injEq] at h; subst h
    exact ⟨cells,rfl,hv⟩
  | (i,x) :: ps,qs,acs,cells,r,hv,h1,h2,h=>by
    cases qs with
    | nil=>simp at h1
    | cons q qs =>
      obtain ⟨k,v⟩:=q
      simp only [List.map_cons,List.cons.injEq] at h1
      obtain ⟨rfl,h1⟩:=h1
      obtain ⟨v',r',e,hx,hr⟩:=h2
      simp only [List.map_cons,List.cons.injEq] at e
      obtain ⟨rfl,rfl⟩:=e
      unfold aFill at h
      split at h
      · rename_i off n cs hp hc
        split at h
        · rename_i hlen
          obtain ⟨hl1,hl2⟩:=hlen
          have hcs:=avCells_ok hx hc
          have hlc:=VRL.length _ _ hcs
          have hla:=VRL.length _ _ hv
          simp only [Array.length_toList] at hlc hla
          have hsp : (v.cells.zipIdx.foldl (fun cs (c,j)=>cs.setIfInBounds (off + j) c) cells).toList = splice cells.toList off v.cells.toList:=by
            have:=foldl_set v.cells.toList off 0 cells (by simp; omega)
            simp only [Nat.add_zero] at this
            rw [← this,← Array.foldl_toList,Array.toList_zipIdx]
          have hv' : VRL w β b (splice acs off cs) (v.cells.zipIdx.foldl (fun cs (c,j)=>cs.setIfInBounds (off + j) c) cells).toList:=by
            rw [hsp]; exact VRL.splice hv hcs off
          obtain ⟨cs',h3,h4⟩:=aFill_ok hpl ps qs _ _ r hv' h1 hr h
          refine ⟨cs',?_,h4⟩
          unfold Instr.fill
          simp only [hpl _ _ hp]
          rw [if_neg (by simp; omega)]
          exact h3
        · simp at h
      · simp at h
end Go.Proofs.YtjbbbkfdcegfmaaGreat
