/- Edges of the plan: each goes from a point to the next one on its segments; the halves that leave a point are in one order. -/
import Derived.Test.YtjbbbkfdcegfmaaGreatG12

namespace Go.Proofs.YtjbbbkfdcegfmaaGreat
open Go Go.RowKit

theorem lastN_at {L : List Sg} {n : Nat} : ∀ {v : Nat},0 ≤ lastN L n v → ∃ a : Nat,lastN L n v = a ∧ a < v ∧ onG L n a = true ∧ ∀ c,a < c → c < v → onG L n c = false
  | 0,h=>by simp [lastN] at h
  | v + 1,h=>by
    unfold lastN at h ⊢
    by_cases hv : onG L n v = true
    · rw [if_pos hv]; exact ⟨v,rfl,by omega,hv,fun c h1 h2=>by omega⟩
    · rw [if_neg hv] at h ⊢
      obtain ⟨a,e,h1,h2,h3⟩:=lastN_at h
      exact ⟨a,e,by omega,h2,fun c h4 h5=>by
        rcases Nat.lt_or_ge c v with h | h
        · exact h3 c h4 h
        · obtain rfl : c = v:=by omega
          simpa using hv⟩
theorem flC_mem {L : List Sg} {m : Nat} {k : Ek} {z : Int} : ∀ {i : Nat},z ∈ flC L m k i → ∃ j : Nat,j < i ∧ z = j ∧ isC L m k j = true
  | 0,h=>by simp [flC] at h
  | i + 1,h=>by
    unfold flC at h
    rcases List.mem_append.1 h with h | h
    · obtain ⟨j,h1,h2,h3⟩:=flC_mem h
      exact ⟨j,by omega,h2,h3⟩
    · split at h
      · rename_i hc
        rw [List.mem_singleton] at h
        exact ⟨i,by omega,h,hc⟩
      · simp at h
theorem ed_fact {L : List Sg} {e : Ed} (h : e ∈ edL L) : ∃ a b : Nat,e.1 = ((a : Int),(b : Int)) ∧ a < b ∧ b < (hitP L).length ∧ e.2 ≠ [] ∧ ∀ z ∈ e.2,∃ i : Nat,z = i ∧ i < L.length ∧ onG L i a = true ∧ onG L i b = true ∧ ∀ c,a < c → c < b → onG L i c = false:=by
  obtain ⟨_,hr⟩:=insF_ok (evB L (hitP L).length L.length)
  have h2:=hr.seg e h
  have h3:=sgO_mem.1 ((hr.key e.1).1 (List.mem_map_of_mem h))
  rw [← h2] at h3
  rw [sgO_B] at h2
  have key : ∀ z ∈ e.2,∃ (i a b : Nat),z = i ∧ i < L.length ∧ e.1 = ((a : Int),(b : Int)) ∧ a < b ∧ b < (hitP L).length ∧ onG L i a = true ∧ onG L i b = true ∧ ∀ c,a < c → c < b → onG L i c = false:=fun z hz=>by
    rw [h2] at hz
    obtain ⟨i,hi,rfl,hc⟩:=flC_mem hz
    simp only [isC,Bool.and_eq_true,decide_eq_true_eq] at hc
    obtain ⟨⟨⟨⟨c1,c2⟩,c3⟩,c4⟩,c5⟩:=hc
    obtain ⟨a,ha,hlt,hon,hno⟩:=lastN_at (by rw [c5]; exact c1)
    refine ⟨i,a,e.1.2.toNat,rfl,hi,Prod.ext (by rw [← c5,ha]) (by simp only []; omega),hlt,c3,hon,c4,hno⟩
  obtain ⟨z,hz⟩:=List.exists_mem_of_ne_nil _ h3
  obtain ⟨i,a,b,_,_,he,hab,hb,_⟩:=key z hz
  refine ⟨a,b,he,hab,hb,h3,fun z hz=>?_⟩
  obtain ⟨i,a',b',e1,e2,e3,_,_,e6,e7,e8⟩:=key z hz
  rw [he,Prod.mk.injEq] at e3
  obtain rfl : a = a':=by omega
  obtain rfl : b = b':=by omega
  exact ⟨i,e1,e2,e6,e7,e8⟩
theorem edL_lt {L : List Sg} {j k : Nat} {d e : Ed} (hj : (edL L)[j]? = some d) (hk : (edL L)[k]? = some e) (h : j < k) : klt d.1 e.1 = true:=by
  have hs:=(insF_ok (evB L (hitP L).length L.length)).1
  unfold kS at hs
  rw [List.pairwise_iff_getElem] at hs
  obtain ⟨h1,rfl⟩:=List.getElem?_eq_some_iff.1 hj
  obtain ⟨h2,rfl⟩:=List.getElem?_eq_some_iff.1 hk
  exact hs j k h1 h2 h

/-- An edge; where a half comes from, where it goes to, its segment. -/
def edq (E : List Ed) (j : Nat) : Ed:=E.getD j ((0,0),[])
def hfr (E : List Ed) (h : Nat) : Int:=if h % 2 = 0 then (edq E (h / 2)).1.1 else (edq E (h / 2)).1.2
def hto (E : List Ed) (h : Nat) : Int:=if h % 2 = 0 then (edq E (h / 2)).1.2 else (edq E (h / 2)).1.1
def hsg (L : List Sg) (E : List Ed) (h : Nat) : Sg:=gq L (gt (edq E (h / 2)).2 0).toNat
def hwx (L : List Sg) (E : List Ed) (h : Nat) : Int:=if h % 2 = 1 then -((hsg L E h).b.x - (hsg L E h).a.x) else (hsg L E h).b.x - (hsg L E h).a.x
def hwy (L : List Sg) (E : List Ed) (h : Nat) : Int:=if h % 2 = 1 then -((hsg L E h).b.y - (hsg L E h).a.y) else (hsg L E h).b.y - (hsg L E h).a.y
theorem edq_get {E : List Ed} {j : Nat} (h : j < E.length) : E[j]? = some (edq E j):=by simp [edq,h]
theorem edq_mem {E : List Ed} {j : Nat} (h : j < E.length) : edq E j ∈ E:=List.mem_of_getElem? (edq_get h)

/-- Which way: to the left (or straight down), or not; then against the clock. -/
def lfW (x y : Int) : Int:=if x < 0 ∨ x = 0 ∧ y < 0 then 1 else 0
def cmW (a b : Int × Int) : Int:=orL [lfW a.1 a.2 - lfW b.1 b.2,-sg3 (a.1 * b.2 - a.2 * b.1)]
theorem cmW_lt {a b : Int × Int} : cmW a b < 0 ↔ lfW a.1 a.2 < lfW b.1 b.2 ∨ lfW a.1 a.2 = lfW b.1 b.2 ∧ 0 < a.1 * b.2 - a.2 * b.1:=by
  unfold cmW
  have h1 : ∀ x y : Int,orL [x,y] < 0 ↔ x < 0 ∨ x = 0 ∧ y < 0:=fun x y=>by
    simp only [orL]; split <;> (try split) <;> omega
  rw [h1]
  generalize a.1 * b.2 - a.2 * b.1 = z
  unfold sg3
  split <;> (try split) <;> omega
def vpos (a : Int × Int) : Prop:=0 < a.1 ∨ a.1 = 0 ∧ 0 < a.2
theorem lf_pos {a : Int × Int} (h : vpos a) : lfW a.1 a.2 = 0:=by unfold vpos at h; unfold lfW; rw [if_neg (by omega)]
theorem lf_neg {a : Int × Int} (h : vpos (-a.1,-a.2)) : lfW a.1 a.2 = 1:=by unfold vpos at h; unfold lfW; simp only [] at h; rw [if_pos (by omega)]
theorem crs_tr {a b c : Int × Int} (ha : vpos a) (hb : vpos b) (hc : vpos c) (h1 : 0 < a.1 * b.2 - a.2 * b.1) (h2 : 0 < b.1 * c.2 - b.2 * c.1) : 0 < a.1 * c.2 - a.2 * c.1:=by
  have e : b.1 * (a.1 * c.2 - a.2 * c.1) = c.1 * (a.1 * b.2 - a.2 * b.1) + a.1 * (b.1 * c.2 - b.2 * c.1):=by grind
  unfold vpos at ha hb hc
  have hb1 : 0 < b.1:=by
    rcases hb with h | ⟨h,h'⟩
    · exact h
    · rw [h] at h2
      have : 0 ≤ b.2 * c.1:=Int.mul_nonneg (by omega) (by omega)
      omega
  have ha1 : 0 < a.1:=by
    rcases ha with h | ⟨h,h'⟩
    · exact h
    · rw [h] at h1
      have : 0 ≤ a.2 * b.1:=Int.mul_nonneg (by omega) (by omega)
      omega
  have p1 : 0 ≤ c.1 * (a.1 * b.2 - a.2 * b.1):=Int.mul_nonneg (by omega) (by omega)
  have p2 : 0 < a.1 * (b.1 * c.2 - b.2 * c.1):=Int.mul_pos ha1 h2
  exact Int.pos_of_mul_pos_right (a:=b.1) (by omega) (by omega)
theorem crs_ntr {a b c : Int × Int} (ha : vpos a) (hb : vpos b) (hc : vpos c) (h1 : a.1 * b.2 - a.2 * b.1 ≤ 0) (h2 : b.1 * c.2 - b.2 * c.1 ≤ 0) : a.1 * c.2 - a.2 * c.1 ≤ 0:=by
  have e : b.1 * (a.1 * c.2 - a.2 * c.1) = c.1 * (a.1 * b.2 - a.2 * b.1) + a.1 * (b.1 * c.2 - b.2 * c.1):=by grind
  unfold vpos at ha hb hc
  rcases hb with hb | ⟨hb,hb'⟩
  · have p1 : c.1 * (a.1 * b.2 - a.2 * b.1) ≤ 0:=Int.mul_nonpos_of_nonneg_of_nonpos (by omega) h1
    have p2 : a.1 * (b.1 * c.2 - b.2 * c.1) ≤ 0:=Int.mul_nonpos_of_nonneg_of_nonpos (by omega) h2
    refine Int.not_lt.1 fun hn=>?_
    have:=Int.mul_pos hb hn
    omega
  · rw [hb] at h1
    have ha1 : a.1 = 0:=by
      rcases ha with h | ⟨h,_⟩
      · have:=Int.mul_pos h hb'; omega
      · exact h
    have : 0 ≤ a.2 * c.1:=Int.mul_nonneg (by omega) (by omega)
    rw [ha1]; omega
theorem cmW_swo {α : Type} (f : α → Int × Int) (hf : ∀ x,vpos (f x) ∨ vpos (-(f x).1,-(f x).2)) : Sort.SWO (ltc fun x y=>cmW (f x) (f y)):=by
  have lf : ∀ x,(lfW (f x).1 (f x).2 = 0 ∧ vpos (f x)) ∨ (lfW (f x).1 (f x).2 = 1 ∧ vpos (-(f x).1,-(f x).2)):=fun x=>(hf x).imp (fun h=>⟨lf_pos h,h⟩) fun h=>⟨lf_neg h,h⟩
  have neg : ∀ a b : Int × Int,(-a.1,-a.2).1 * (-b.1,-b.2).2 - (-a.1,-a.2).2 * (-b.1,-b.2).1 = a.1 * b.2 - a.2 * b.1:=fun a b=>by simp only []; grind
  have T : ∀ x y,(ltc fun x y=>cmW (f x) (f y)) x y = true ↔ lfW (f x).1 (f x).2 < lfW (f y).1 (f y).2 ∨ lfW (f x).1 (f x).2 = lfW (f y).1 (f y).2 ∧ 0 < (f x).1 * (f y).2 - (f x).2 * (f y).1:=fun x y=>by
    rw [← cmW_lt]; simp [ltc]
  have N : ∀ x y,(ltc fun x y=>cmW (f x) (f y)) x y = false ↔ ¬ (lfW (f x).1 (f x).2 < lfW (f y).1 (f y).2 ∨ lfW (f x).1 (f x).2 = lfW (f y).1 (f y).2 ∧ 0 < (f x).1 * (f y).2 - (f x).2 * (f y).1):=fun x y=>by
    rw [← T]; simp
  refine ⟨fun x=>(N x x).2 ?_,fun x y z h1 h2=>(T x z).2 ?_,fun x y z h1 h2=>(N x z).2 ?_⟩
  · have : (f x).1 * (f x).2 - (f x).2 * (f x).1 = 0:=by grind
    omega
  · rw [T] at h1 h2
    rcases lf x with ⟨x1,x2⟩ | ⟨x1,x2⟩ <;> rcases lf y with ⟨y1,y2⟩ | ⟨y1,y2⟩ <;> rcases lf z with ⟨z1,z2⟩ | ⟨z1,z2⟩ <;> rw [x1,y1] at h1 <;> rw [y1,z1] at h2 <;> rw [x1,z1] <;> first
      | omega
      | exact .inr ⟨rfl,crs_tr x2 y2 z2 (by omega) (by omega)⟩
      | (refine .inr ⟨rfl,?_⟩; rw [← neg]; exact crs_tr x2 y2 z2 (by rw [neg]; omega) (by rw [neg]; omega))
  · rw [N] at h1 h2
    rcases lf x with ⟨x1,x2⟩ | ⟨x1,x2⟩ <;> rcases lf y with ⟨y1,y2⟩ | ⟨y1,y2⟩ <;> rcases lf z with ⟨z1,z2⟩ | ⟨z1,z2⟩ <;> rw [x1,y1] at h1 <;> rw [y1,z1] at h2 <;> rw [x1,z1] <;> first
      | omega
      | (have:=crs_ntr x2 y2 z2 (by omega) (by omega); omega)
      | (have:=crs_ntr x2 y2 z2 (by rw [neg]; omega) (by rw [neg]; omega); rw [neg] at this; omega)

/-- From a point to another one. -/
def vcP (p q : Pt) : Int × Int:=(q.x.v * p.w.v - p.x.v * q.w.v,q.y.v * p.w.v - p.y.v * q.w.v)
theorem vc_det (p q r : Pt) : (vcP p q).1 * (vcP p r).2 - (vcP p q).2 * (vcP p r).1 = p.w.v * det p q r:=by unfold vcP det; simp only []; grind
theorem vc_anti (p q : Pt) : vcP p q = (-(vcP q p).1,-(vcP q p).2):=by unfold vcP; exact Prod.ext (by simp only []; omega) (by simp only []; omega)
theorem vc_pos {p q : Pt} (h : cmV p q < 0) : vpos (vcP p q):=by
  unfold vpos vcP
  have hx : cmX p q < 0 ∨ cmX p q = 0 ∧ cmY p q < 0:=by
    unfold cmV at h
    split at h
    · exact .inl h
    · exact .inr ⟨by omega,h⟩
  unfold cmX cmY at hx
  rw [cm_lt,cm_eq,cm_lt] at hx
  simp only []; omega
def sgD (s : Sg) : Int × Int:=(s.b.x - s.a.x,s.b.y - s.a.y)
theorem sgD_pos {s : Sg} (h : s.good = true) : vpos (sgD s):=by
  have:=good_ax h
  unfold vpos sgD; simp only []; omega
theorem vc_par {s : Sg} {p q : Pt} (hp : sdZ s p = 0) (hq : sdZ s q = 0) : (sgD s).1 * (vcP p q).2 - (sgD s).2 * (vcP p q).1 = 0:=by
  unfold sdZ at hp hq
  unfold sgD vcP
  simp only []
  have : (s.b.x - s.a.x) * (q.y.v * p.w.v - p.y.v * q.w.v) - (s.b.y - s.a.y) * (q.x.v * p.w.v - p.x.v * q.w.v) = p.w.v * ((s.b.x - s.a.x) * (q.y.v - s.a.y * q.w.v) - (s.b.y - s.a.y) * (q.x.v - s.a.x * q.w.v)) - q.w.v * ((s.b.x - s.a.x) * (p.y.v - s.a.y * p.w.v) - (s.b.y - s.a.y) * (p.x.v - s.a.x * p.w.v)):=by grind
  rw [this,hp,hq]; simp
/-- Vectors that go one way are on one side of any other. -/
theorem par_sg {u d : Int × Int} (hu : vpos u) (hd : vpos d) (h : d.1 * u.2 - d.2 * u.1 = 0) (z : Int × Int) : (0 < u.1 * z.2 - u.2 * z.1 ↔ 0 < d.1 * z.2 - d.2 * z.1) ∧ (u.1 * z.2 - u.2 * z.1 = 0 ↔ d.1 * z.2 - d.2 * z.1 = 0):=by
  have key : ∃ m n : Int,0 < m ∧ 0 < n ∧ m * (u.1 * z.2 - u.2 * z.1) = n * (d.1 * z.2 - d.2 * z.1):=by
    unfold vpos at hu hd
    rcases hd with hd | ⟨hd,hd'⟩
    · refine ⟨d.1,u.1,hd,?_,by grind⟩
      rcases hu with hu | ⟨hu,hu'⟩
      · exact hu
      · have:=Int.mul_pos hd hu'
        rw [hu] at h; omega
    · refine ⟨d.2,u.2,hd',?_,by grind⟩
      rcases hu with hu | ⟨hu,hu'⟩
      · have:=Int.mul_pos hd' hu
        rw [hd] at h; omega
      · exact hu'
  obtain ⟨m,n,hm,hn,e⟩:=key
  generalize u.1 * z.2 - u.2 * z.1 = X at *
  generalize d.1 * z.2 - d.2 * z.1 = Y at *
  refine ⟨⟨fun hx=>?_,fun hy=>?_⟩,⟨fun hx=>?_,fun hy=>?_⟩⟩
  · have:=Int.mul_pos hm hx
    exact Int.pos_of_mul_pos_right (a:=n) (by omega) (by omega)
  · have:=Int.mul_pos hn hy
    exact Int.pos_of_mul_pos_right (a:=m) (by omega) (by omega)
  · rw [hx,Int.mul_zero] at e
    rcases Int.mul_eq_zero.1 e.symm with h | h <;> omega
  · rw [hy,Int.mul_zero] at e
    rcases Int.mul_eq_zero.1 e with h | h <;> omega
end Go.Proofs.YtjbbbkfdcegfmaaGreat

/- The halves that leave a point, in order: as they are put in one by one, and as they are sorted. -/
namespace Go.Proofs.YtjbbbkfdcegfmaaGreat
open Go Go.RowKit

theorem P_lt {L : List Sg} {k l : Nat} (h : k < l) (hl : l < (hitP L).length) : cmV (gpq L k).1 (gpq L l).1 < 0:=by
  have hs:=insS_srt (seqM L L.length)
  rw [List.pairwise_iff_getElem] at hs
  have:=ltH_iff.1 (hs k l (by unfold hitP at hl; omega) hl h)
  have e : ∀ i,(hi : i < (hitP L).length) → gpq L i = (hitP L)[i]:=fun i hi=>by unfold gpq; rw [List.getD_eq_getElem?_getD,List.getElem?_eq_getElem hi]; rfl
  rw [e k (by omega),e l hl]; exact this
theorem onG_z {L : List Sg} {i v : Nat} (h : onG L i v = true) : sdZ (gq L i) (gpq L v).1 = 0:=by
  unfold onG onF at h
  simp only [Bool.and_eq_true,beq_iff_eq] at h
  exact sg3_zero.1 h.2.2
def hw (L : List Sg) (h : Nat) : Int × Int:=(hwx L (edL L) h,hwy L (edL L) h)
def hfn (L : List Sg) (h : Nat) : Nat:=(hfr (edL L) h).toNat
def htn (L : List Sg) (h : Nat) : Nat:=(hto (edL L) h).toNat

section
variable {L : List Sg}
/-- What is known of half h: its edge's points a and b, its segment i. -/
theorem hf_fact {h : Nat} (hh : h < 2 * (edL L).length) : ∃ a b i : Nat,(edq (edL L) (h / 2)).1 = ((a : Int),(b : Int)) ∧ a < b ∧ b < (hitP L).length ∧ hsg L (edL L) h = gq L i ∧ i < L.length ∧ onG L i a = true ∧ onG L i b = true ∧ ∀ c,a < c → c < b → onG L i c = false:=by
  obtain ⟨a,b,h1,h2,h3,h4,h5⟩:=ed_fact (edq_mem (E:=edL L) (j:=h / 2) (by omega))
  obtain ⟨i,e1,e2,e3,e4,e5⟩:=h5 (gt (edq (edL L) (h / 2)).2 0) (by
    cases hc : (edq (edL L) (h / 2)).2 with
    | nil=>exact absurd hc h4
    | cons x r=>simp [gt])
  exact ⟨a,b,i,h1,h2,h3,by unfold hsg; rw [e1,Int.toNat_natCast],e2,e3,e4,e5⟩
theorem hf_seg {h : Nat} (hh : h < 2 * (edL L).length) : ∃ i : Nat,gt (edq (edL L) (h / 2)).2 0 = (i : Int) ∧ i < L.length ∧ hsg L (edL L) h = gq L i ∧ 0 < (edq (edL L) (h / 2)).2.length:=by
  obtain ⟨a,b,h1,h2,h3,h4,h5⟩:=ed_fact (edq_mem (E:=edL L) (j:=h / 2) (by omega))
  obtain ⟨i,e1,e2,_⟩:=h5 (gt (edq (edL L) (h / 2)).2 0) (by
    cases hc : (edq (edL L) (h / 2)).2 with
    | nil=>exact absurd hc h4
    | cons x r=>simp [gt])
  exact ⟨i,e1,e2,by unfold hsg; rw [e1,Int.toNat_natCast],List.length_pos_iff.2 h4⟩
/-- Vectors along segments are on one side of one another as the segments' ways. -/
theorem par2 {u d u' d' : Int × Int} (hu : vpos u) (hd : vpos d) (h : d.1 * u.2 - d.2 * u.1 = 0) (hu' : vpos u') (hd' : vpos d') (h' : d'.1 * u'.2 - d'.2 * u'.1 = 0) : (0 < u.1 * u'.2 - u.2 * u'.1 ↔ 0 < d.1 * d'.2 - d.2 * d'.1) ∧ (u.1 * u'.2 - u.2 * u'.1 = 0 ↔ d.1 * d'.2 - d.2 * d'.1 = 0):=by
  obtain ⟨a1,a2⟩:=par_sg hu hd h u'
  obtain ⟨b1,b2⟩:=par_sg hu' hd' h' d
  have e1 : u'.1 * d.2 - u'.2 * d.1 = -(d.1 * u'.2 - d.2 * u'.1):=by grind
  have e2 : d'.1 * d.2 - d'.2 * d.1 = -(d.1 * d'.2 - d.2 * d'.1):=by grind
  rw [e1,e2] at b1 b2
  generalize u.1 * u'.2 - u.2 * u'.1 = x at *
  generalize d.1 * u'.2 - d.2 * u'.1 = y at *
  generalize d.1 * d'.2 - d.2 * d'.1 = z at *
  omega
theorem z_par {s : Sg} {p q : Pt} (hw : 0 < p.w.v) (hp : sdZ s p = 0) (h : (sgD s).1 * (vcP p q).2 - (sgD s).2 * (vcP p q).1 = 0) : sdZ s q = 0:=by
  have e : (sgD s).1 * (vcP p q).2 - (sgD s).2 * (vcP p q).1 = p.w.v * sdZ s q - q.w.v * sdZ s p:=by unfold sgD vcP sdZ; simp only []; grind
  rw [e,hp,Int.mul_zero,Int.sub_zero] at h
  rcases Int.mul_eq_zero.1 h with h | h <;> omega
theorem on_btw {s : Sg} (hs : s.good = true) {p q r : GP} (hp : onF s p.1 = true) (hr : onF s r.1 = true) (h1 : cmV p.1 q.1 < 0) (h2 : cmV q.1 r.1 < 0) (hz : sdZ s q.1 = 0) : onF s q.1 = true:=by
  unfold onF at *
  simp only [Bool.and_eq_true,decide_eq_true_eq,beq_iff_eq] at *
  have wa : 0 < (ptS s.a).w.v:=by rw [(ptS_v (good_a hs)).2.2]; decide
  have wb : 0 < (ptS s.b).w.v:=by rw [(ptS_v (good_b hs)).2.2]; decide
  exact ⟨cmV_tr wa (gp_w q) (gp_w p) hp.1 (by omega),cmV_tr (gp_w q) wb (gp_w r) (by omega) hr.2.1,sg3_zero.2 hz⟩
theorem gq_good (hg : ∀ s ∈ L,s.good = true) {i : Nat} (h : i < L.length) : (gq L i).good = true:=hg _ (gq_mem h)

/-- Two edges that leave one point one way are one; so are two that come to one point. -/
theorem no_tieA (hg : ∀ s ∈ L,s.good = true) {v b b' i i' : Nat} (hi : i < L.length) (hi' : i' < L.length) (h1 : onG L i v = true) (h2 : onG L i b = true) (h1' : onG L i' v = true) (h2' : onG L i' b' = true) (hv : v < b) (hb : b < b') (hm : b' < (hitP L).length) (hno : ∀ c,v < c → c < b' → onG L i' c = false) (hz : (sgD (gq L i)).1 * (sgD (gq L i')).2 - (sgD (gq L i)).2 * (sgD (gq L i')).1 = 0) : False:=by
  have c1:=P_lt (L:=L) hv (by omega)
  have c2:=P_lt (L:=L) hb hm
  have pr:=vc_par (onG_z h1) (onG_z h2)
  have q:=(par_sg (vc_pos c1) (sgD_pos (gq_good hg hi)) pr (sgD (gq L i'))).2.2 hz
  have hzb : sdZ (gq L i') (gpq L b).1 = 0:=z_par (gp_w _) (onG_z h1') (by
    have e : (sgD (gq L i')).1 * (vcP (gpq L v).1 (gpq L b).1).2 - (sgD (gq L i')).2 * (vcP (gpq L v).1 (gpq L b).1).1 = -((vcP (gpq L v).1 (gpq L b).1).1 * (sgD (gq L i')).2 - (vcP (gpq L v).1 (gpq L b).1).2 * (sgD (gq L i')).1):=by grind
    rw [e,q]; rfl)
  have:=on_btw (gq_good hg hi') h1' h2' c1 c2 hzb
  have h3:=hno b hv hb
  unfold onG at h3
  rw [this] at h3; exact Bool.noConfusion h3
theorem no_tieB (hg : ∀ s ∈ L,s.good = true) {v a a' i i' : Nat} (hi : i < L.length) (hi' : i' < L.length) (h1 : onG L i v = true) (h2 : onG L i a = true) (h1' : onG L i' v = true) (h2' : onG L i' a' = true) (ha : a < a') (hv : a' < v) (hm : v < (hitP L).length) (hno : ∀ c,a < c → c < v → onG L i c = false) (hz : (sgD (gq L i)).1 * (sgD (gq L i')).2 - (sgD (gq L i)).2 * (sgD (gq L i')).1 = 0) : False:=by
  have c1:=P_lt (L:=L) ha (by omega)
  have c2:=P_lt (L:=L) hv hm
  have pr:=vc_par (onG_z h2') (onG_z h1')
  have q:=(par_sg (vc_pos c2) (sgD_pos (gq_good hg hi')) pr (sgD (gq L i))).2.2 (by
    have e : (sgD (gq L i')).1 * (sgD (gq L i)).2 - (sgD (gq L i')).2 * (sgD (gq L i)).1 = -((sgD (gq L i)).1 * (sgD (gq L i')).2 - (sgD (gq L i)).2 * (sgD (gq L i')).1):=by grind
    rw [e,hz]; rfl)
  have hzb : sdZ (gq L i) (gpq L a').1 = 0:=z_par (gp_w _) (onG_z h1) (by
    rw [vc_anti]
    have e : (sgD (gq L i)).1 * -(vcP (gpq L a').1 (gpq L v).1).2 - (sgD (gq L i)).2 * -(vcP (gpq L a').1 (gpq L v).1).1 = (vcP (gpq L a').1 (gpq L v).1).1 * (sgD (gq L i)).2 - (vcP (gpq L a').1 (gpq L v).1).2 * (sgD (gq L i)).1:=by grind
    simp only []; rw [e,q])
  have:=on_btw (gq_good hg hi) h2 h1 c1 c2 hzb
  have h3:=hno a' ha hv
  unfold onG at h3
  rw [this] at h3; exact Bool.noConfusion h3

theorem hw_even {h : Nat} (h0 : h % 2 = 0) : hw L h = sgD (hsg L (edL L) h):=by unfold hw hwx hwy sgD; rw [if_neg (by omega),if_neg (by omega)]
theorem hw_odd {h : Nat} (h0 : h % 2 = 1) : hw L h = (-(sgD (hsg L (edL L) h)).1,-(sgD (hsg L (edL L) h)).2):=by unfold hw hwx hwy sgD; rw [if_pos h0,if_pos h0]
theorem hw_pos (hg : ∀ s ∈ L,s.good = true) {h : Nat} (hh : h < 2 * (edL L).length) : (h % 2 = 0 ∧ vpos (hw L h)) ∨ (h % 2 = 1 ∧ vpos (-(hw L h).1,-(hw L h).2)):=by
  obtain ⟨a,b,i,_,_,_,e,hi,_⟩:=hf_fact hh
  have:=sgD_pos (gq_good hg hi)
  rcases Nat.mod_two_eq_zero_or_one h with h0 | h0
  · exact .inl ⟨h0,by rw [hw_even h0,e]; exact this⟩
  · exact .inr ⟨h0,by rw [hw_odd h0,e]; simp only [Int.neg_neg]; exact this⟩
theorem ed_unq {j k : Nat} (hj : j < (edL L).length) (hk : k < (edL L).length) (h : (edq (edL L) j).1 = (edq (edL L) k).1) : j = k:=by
  rcases Nat.lt_trichotomy j k with q | q | q
  · have:=edL_lt (edq_get hj) (edq_get hk) q
    rw [h,klt_irr] at this; simp at this
  · exact q
  · have:=edL_lt (edq_get hk) (edq_get hj) q
    rw [h,klt_irr] at this; simp at this
theorem hf_nat {h : Nat} (hh : h < 2 * (edL L).length) : hfr (edL L) h = (hfn L h : Int) ∧ hto (edL L) h = (htn L h : Int) ∧ hfn L h < (hitP L).length ∧ htn L h < (hitP L).length ∧ (h % 2 = 0 → hfn L h < htn L h) ∧ (h % 2 = 1 → htn L h < hfn L h):=by
  obtain ⟨a,b,i,h1,h2,h3,_⟩:=hf_fact hh
  unfold hfn htn hfr hto
  rw [h1]
  split <;> refine ⟨by simp,by simp,?_,?_,?_,?_⟩ <;> simp only [Int.toNat_natCast] <;> omega
/-- Halves that leave one point, to one side: their order by the points and by the segments. -/
theorem half_det (hg : ∀ s ∈ L,s.good = true) {g h : Nat} (hh : h < 2 * (edL L).length) (gh : g < 2 * (edL L).length) (hp : g % 2 = h % 2) (hf : hfn L g = hfn L h) :
    (0 < (hw L g).1 * (hw L h).2 - (hw L g).2 * (hw L h).1 ↔ 0 < det (gpq L (hfn L h)).1 (gpq L (htn L g)).1 (gpq L (htn L h)).1) ∧ ((hw L g).1 * (hw L h).2 - (hw L g).2 * (hw L h).1 = 0 → g = h):=by
  obtain ⟨a,b,i,h1,h2,h3,h4,h5,h6,h7,h8⟩:=hf_fact hh
  obtain ⟨c,d,j,g1,g2,g3,g4,g5,g6,g7,g8⟩:=hf_fact gh
  have gi:=sgD_pos (gq_good hg h5)
  have gj:=sgD_pos (gq_good hg g5)
  have hu : (edq (edL L) (g / 2)).1 = (edq (edL L) (h / 2)).1 → g = h:=fun e=>by have:=ed_unq (L:=L) (by omega) (by omega) e; omega
  have wv:=gp_w (gpq L (hfn L h))
  have hd:=vc_det (gpq L (hfn L h)).1 (gpq L (htn L g)).1 (gpq L (htn L h)).1
  have hdd : ∀ z w : Int,0 < w → ∀ x,x = w * z → (0 < x ↔ 0 < z):=fun z w hw x hx=>by
    subst hx; constructor
    · intro h; exact Int.pos_of_mul_pos_right h hw
    · intro h; exact Int.mul_pos hw h
  rw [← hdd _ _ wv _ hd]
  rcases Nat.mod_two_eq_zero_or_one h with h0 | h0
  · have g0 : g % 2 = 0:=by omega
    have x1 : hfn L h = a:=by unfold hfn hfr; rw [if_pos h0,h1]; simp
    have x2 : htn L h = b:=by unfold htn hto; rw [if_pos h0,h1]; simp
    have y1 : hfn L g = c:=by unfold hfn hfr; rw [if_pos g0,g1]; simp
    have y2 : htn L g = d:=by unfold htn hto; rw [if_pos g0,g1]; simp
    obtain rfl : c = a:=by omega
    rw [hw_even h0,hw_even g0,h4,g4,x1,x2,y2]
    have p1:=vc_pos (P_lt (L:=L) h2 h3)
    have p2:=vc_pos (P_lt (L:=L) g2 g3)
    have:=par2 p2 gj (vc_par (onG_z g6) (onG_z g7)) p1 gi (vc_par (onG_z h6) (onG_z h7))
    refine ⟨this.1.symm,fun hz=>hu ?_⟩
    rw [h1,g1]
    rcases Nat.lt_trichotomy b d with q | q | q
    · exact (no_tieA hg h5 g5 h6 h7 g6 g7 h2 q g3 g8 (by grind)).elim
    · rw [q]
    · exact (no_tieA hg g5 h5 g6 g7 h6 h7 g2 q h3 h8 hz).elim
  · have g0 : g % 2 = 1:=by omega
    have x1 : hfn L h = b:=by unfold hfn hfr; rw [if_neg (by omega),h1]; simp
    have x2 : htn L h = a:=by unfold htn hto; rw [if_neg (by omega),h1]; simp
    have y1 : hfn L g = d:=by unfold hfn hfr; rw [if_neg (by omega),g1]; simp
    have y2 : htn L g = c:=by unfold htn hto; rw [if_neg (by omega),g1]; simp
    obtain rfl : d = b:=by omega
    rw [hw_odd h0,hw_odd g0,h4,g4,x1,x2,y2,vc_anti,vc_anti (gpq L d).1]
    have p1:=vc_pos (P_lt (L:=L) h2 h3)
    have p2:=vc_pos (P_lt (L:=L) g2 g3)
    have:=par2 p2 gj (vc_par (onG_z g6) (onG_z g7)) p1 gi (vc_par (onG_z h6) (onG_z h7))
    have nn : ∀ p q r s : Int,-p * -q - -r * -s = p * q - r * s:=fun p q r s=>by grind
    simp only [nn]
    refine ⟨this.1.symm,fun hz=>hu ?_⟩
    rw [h1,g1]
    rcases Nat.lt_trichotomy a c with q | q | q
    · exact (no_tieB hg h5 g5 h7 h6 g7 g6 q g2 g3 h8 (by grind)).elim
    · rw [q]
    · exact (no_tieB hg g5 h5 g7 g6 h7 h6 q h2 h3 g8 hz).elim
end

/-- Does half o stay ahead of half h. -/
def kG (L : List Sg) (v o h : Nat) : Bool:=if decide (hto (edL L) o > v) ≠ decide (hto (edL L) h > v) then decide (hto (edL L) o > v) else decide (0 ≤ sg3 (det (gpq L v).1 (gpq L (htn L o)).1 (gpq L (htn L h)).1))
def ltW (L : List Sg) (x y : Nat) : Bool:=decide (cmW (hw L x) (hw L y) < 0)
theorem kG_eq {L : List Sg} (hg : ∀ s ∈ L,s.good = true) {v o h : Nat} (ho : o < 2 * (edL L).length) (hh : h < 2 * (edL L).length) (eo : hfn L o = v) (eh : hfn L h = v) (hne : o ≠ h) : kG L v o h = ltW L o h:=by
  obtain ⟨_,o2,_,_,o5,o6⟩:=hf_nat ho
  obtain ⟨_,h2,_,_,h5,h6⟩:=hf_nat hh
  unfold kG ltW
  rw [o2,h2,Bool.eq_iff_iff,decide_eq_true_eq,cmW_lt]
  have lo:=(hw_pos hg ho).imp (fun ⟨a,b⟩=>And.intro a (lf_pos b)) fun ⟨a,b⟩=>And.intro a (lf_neg b)
  have lh:=(hw_pos hg hh).imp (fun ⟨a,b⟩=>And.intro a (lf_pos b)) fun ⟨a,b⟩=>And.intro a (lf_neg b)
  have same : o % 2 = h % 2 → (0 ≤ sg3 (det (gpq L v).1 (gpq L (htn L o)).1 (gpq L (htn L h)).1) ↔ 0 < (hw L o).1 * (hw L h).2 - (hw L o).2 * (hw L h).1):=fun hp=>by
    obtain ⟨d1,d2⟩:=half_det hg hh ho hp (by omega)
    have d3:=half_det hg ho hh hp.symm (by omega)
    have e : (hw L h).1 * (hw L o).2 - (hw L h).2 * (hw L o).1 = -((hw L o).1 * (hw L h).2 - (hw L o).2 * (hw L h).1):=by grind
    have e2 : det (gpq L v).1 (gpq L (htn L h)).1 (gpq L (htn L o)).1 = -det (gpq L v).1 (gpq L (htn L o)).1 (gpq L (htn L h)).1:=by rw [← det_rot,det_swap,det_rot]
    rw [eo,e,e2] at d3
    rw [eh] at d1
    have:=d3.1
    have hz : (hw L o).1 * (hw L h).2 - (hw L o).2 * (hw L h).1 ≠ 0:=fun hz=>hne (d2 hz)
    generalize det (gpq L v).1 (gpq L (htn L o)).1 (gpq L (htn L h)).1 = D at *
    unfold sg3
    split <;> (try split) <;> omega
  have d2 : decide ((2 : Int) = 3) = false:=rfl
  rcases lo with ⟨a1,a2⟩ | ⟨a1,a2⟩ <;> rcases lh with ⟨b1,b2⟩ | ⟨b1,b2⟩ <;> rw [a2,b2]
  · have c1 : (htn L o : Int) > v:=by have:=o5 a1; omega
    have c2 : (htn L h : Int) > v:=by have:=h5 b1; omega
    rw [if_neg (by simp [c1,c2]),decide_eq_true_eq,same (by omega)]; omega
  · have c1 : (htn L o : Int) > v:=by have:=o5 a1; omega
    have c2 : ¬ (htn L h : Int) > v:=by have:=h6 b1; omega
    rw [if_pos (by simp only [c1,c2]; decide),decide_eq_true_eq]; omega
  · have c1 : ¬ (htn L o : Int) > v:=by have:=o6 a1; omega
    have c2 : (htn L h : Int) > v:=by have:=h5 b1; omega
    rw [if_pos (by simp only [c1,c2]; decide),decide_eq_true_eq]; omega
  · have c1 : ¬ (htn L o : Int) > v:=by have:=o6 a1; omega
    have c2 : ¬ (htn L h : Int) > v:=by have:=h6 b1; omega
    rw [if_neg (by simp only [c1,c2]; decide),decide_eq_true_eq,same (by omega)]; omega

/-- The halves that leave v: as they come, and put in one by one. -/
def bkt (L : List Sg) (v n : Nat) : List Nat:=(List.range n).filter fun h=>decide (hfr (edL L) h = v)
def arN (L : List Sg) (v : Nat) : Nat → List Nat
  | 0=>[]
  | n + 1=>if hfr (edL L) n = v then insA (kG L v) (arN L v n) n else arN L v n
def arV (L : List Sg) (v : Nat) : List Nat:=arN L v (2 * (edL L).length)
theorem bkt_yes {L : List Sg} {v n : Nat} (h : hfr (edL L) n = v) : bkt L v (n + 1) = bkt L v n ++ [n]:=by simp [bkt,List.range_succ,h]
theorem bkt_no {L : List Sg} {v n : Nat} (h : ¬ hfr (edL L) n = v) : bkt L v (n + 1) = bkt L v n:=by simp [bkt,List.range_succ,h]
theorem arN_perm (L : List Sg) (v : Nat) : ∀ n,(arN L v n).Perm (bkt L v n)
  | 0=>by simp [arN,bkt]
  | n + 1=>by
    unfold arN
    by_cases h : hfr (edL L) n = v
    · rw [if_pos h,bkt_yes h]
      exact (insA_perm _ _ _).trans (((arN_perm L v n).cons n).trans (by simpa using (List.perm_middle (a:=n) (l₁:=bkt L v n) (l₂:=[])).symm))
    · rw [if_neg h,bkt_no h]; exact arN_perm L v n
theorem bkt_mem {L : List Sg} {v n x : Nat} : x ∈ bkt L v n ↔ x < n ∧ hfr (edL L) x = v:=by simp [bkt]
theorem insK_congr {α : Type} {k1 k2 : α → α → Bool} {s : α} : ∀ {l : List α},(∀ x ∈ l,k1 x s = k2 x s) → insK k1 s l = insK k2 s l
  | [],_=>rfl
  | x :: r,h=>by rw [insK,insK,h x (by simp),insK_congr fun y hy=>h y (by simp [hy])]
theorem insA_congr {α : Type} {k1 k2 : α → α → Bool} {s : α} {l : List α} (h : ∀ x ∈ l,k1 x s = k2 x s) : insA k1 l s = insA k2 l s:=by unfold insA; rw [insK_congr h]
/-- A row that is put together in order: sorted, where the order is one on its elements. -/
theorem insA_srt' {lt : Nat → Nat → Bool} {p : Nat → Prop} (ht : ∀ x y z,p x → p y → p z → lt x y = true → lt y z = true → lt x z = true) (ha : ∀ x y,p x → p y → lt x y = true → lt y x = false) (s : Nat) (hs : p s) : ∀ (l : List Nat),(∀ x ∈ l,p x) → l.Pairwise (fun x y=>lt y x = false) → (∀ x ∈ l,lt x s = false → lt s x = true) → (insA lt l s).Pairwise (fun x y=>lt y x = false)
  | [],_,_,_=>by simp [insA,insK]
  | x :: r,hp,h,hc=>by
    rw [List.pairwise_cons] at h
    rw [insA_cons]
    by_cases hx : lt x s = true
    · rw [if_pos hx,List.pairwise_cons]
      refine ⟨fun y hy=>?_,insA_srt' ht ha s hs r (fun y hy=>hp y (by simp [hy])) h.2 fun y hy=>hc y (by simp [hy])⟩
      rcases List.mem_cons.1 ((insA_perm lt r s).mem_iff.1 hy) with rfl | hy
      · exact ha _ _ (hp x (by simp)) hs hx
      · exact h.1 y hy
    · rw [if_neg hx,List.pairwise_cons]
      have hx' : lt x s = false:=by simpa using hx
      have hsx:=hc x (by simp) hx'
      refine ⟨fun y hy=>?_,List.pairwise_cons.2 h⟩
      rcases List.mem_cons.1 hy with rfl | hy
      · exact hx'
      · refine Bool.eq_false_iff.2 fun hys=>?_
        have:=ht y s x (hp y (by simp [hy])) hs (hp x (by simp)) hys hsx
        rw [h.1 y hy] at this; exact Bool.noConfusion this
section
variable {L : List Sg} (hg : ∀ s ∈ L,s.good = true)
include hg
abbrev HF (L : List Sg):={h : Nat // h < 2 * (edL L).length}
theorem hf_swo : Sort.SWO (ltc fun x y : HF L=>cmW (hw L x.1) (hw L y.1)) :=
  cmW_swo (fun x : HF L=>hw L x.1) fun x=>(hw_pos hg x.2).imp (·.2) (·.2)
theorem ltW_tr {x y z : Nat} (hx : x < 2 * (edL L).length) (hy : y < 2 * (edL L).length) (hz : z < 2 * (edL L).length) (h1 : ltW L x y = true) (h2 : ltW L y z = true) : ltW L x z = true:=(hf_swo hg).trans ⟨x,hx⟩ ⟨y,hy⟩ ⟨z,hz⟩ h1 h2
theorem ltW_irr {x : Nat} (hx : x < 2 * (edL L).length) : ltW L x x = false:=(hf_swo hg).irrefl ⟨x,hx⟩
theorem ltW_anti {x y : Nat} (hx : x < 2 * (edL L).length) (hy : y < 2 * (edL L).length) (h : ltW L x y = true) : ltW L y x = false:=Bool.eq_false_iff.2 fun h2=>by
  have:=ltW_tr hg hx hy hx h h2
  rw [ltW_irr hg hx] at this; exact Bool.noConfusion this
theorem ltW_tri {x y : Nat} (hx : x < 2 * (edL L).length) (hy : y < 2 * (edL L).length) (hf : hfn L x = hfn L y) (h1 : ltW L x y = false) (h2 : ltW L y x = false) : x = y:=by
  unfold ltW at h1 h2
  rw [decide_eq_false_iff_not,cmW_lt] at h1 h2
  have lx:=(hw_pos hg hx).imp (fun ⟨a,b⟩=>And.intro a (lf_pos b)) fun ⟨a,b⟩=>And.intro a (lf_neg b)
  have ly:=(hw_pos hg hy).imp (fun ⟨a,b⟩=>And.intro a (lf_pos b)) fun ⟨a,b⟩=>And.intro a (lf_neg b)
  have e : (hw L y).1 * (hw L x).2 - (hw L y).2 * (hw L x).1 = -((hw L x).1 * (hw L y).2 - (hw L x).2 * (hw L y).1):=by grind
  rw [e] at h2
  refine (half_det hg hy hx ?_ hf).2 ?_ <;> rcases lx with ⟨a1,a2⟩ | ⟨a1,a2⟩ <;> rcases ly with ⟨b1,b2⟩ | ⟨b1,b2⟩ <;> rw [a2,b2] at h1 h2 <;> omega
theorem arN_srt (v : Nat) : ∀ n,n ≤ 2 * (edL L).length → (arN L v n).Pairwise (fun x y=>ltW L y x = false)
  | 0,_=>List.Pairwise.nil
  | n + 1,hn=>by
    unfold arN
    by_cases h : hfr (edL L) n = v
    · have hm : ∀ x ∈ arN L v n,x < n ∧ hfr (edL L) x = v:=fun x hx=>bkt_mem.1 ((arN_perm L v n).mem_iff.1 hx)
      have hv : ∀ x,x < 2 * (edL L).length → hfr (edL L) x = v → hfn L x = v:=fun x hx he=>by unfold hfn; omega
      rw [if_pos h,insA_congr (k2:=ltW L) fun x hx=>by
        obtain ⟨a,b⟩:=hm x hx
        exact kG_eq hg (by omega) (by omega) (hv x (by omega) b) (hv n (by omega) h) (by omega)]
      refine insA_srt' (p:=fun x=>x < 2 * (edL L).length) (fun x y z=>ltW_tr hg) (fun x y=>ltW_anti hg) n (by omega) _ (fun x hx=>by have:=(hm x hx).1; omega) (arN_srt v n (by omega)) fun x hx hl=>?_
      obtain ⟨a,b⟩:=hm x hx
      refine Classical.byContradiction fun hc=>?_
      have:=ltW_tri hg (x:=x) (y:=n) (by omega) (by omega) (by rw [hv x (by omega) b,hv n (by omega) h]) hl (by simpa using hc)
      omega
    · rw [if_neg h]; exact arN_srt v n (by omega)
/-- What is sorted is what is put together. -/
theorem ar_sort {v : Nat} {r : List Nat} (hp : r.Perm (bkt L v (2 * (edL L).length))) (hr : r.Pairwise (fun x y=>ltW L y x = false)) : r = arV L v:=by
  refine List.Perm.eq_of_pairwise (le:=fun x y=>ltW L y x = false) (fun x y hx hy h h'=>?_) hr (arN_srt hg v _ (Nat.le_refl _)) (hp.trans (arN_perm L v _).symm)
  have hx:=bkt_mem.1 (hp.mem_iff.1 hx)
  have hy:=bkt_mem.1 ((arN_perm L v _).mem_iff.1 hy)
  exact ltW_tri hg hx.1 hy.1 (by unfold hfn; omega) h' h
end
end Go.Proofs.YtjbbbkfdcegfmaaGreat

/- The last point on each segment, as it is kept; edges as they are gathered, one event more. -/
namespace Go.Proofs.YtjbbbkfdcegfmaaGreat
open Go Go.RowKit

/-- The last points ahead of v; of the segments A: v itself. -/
def lasL (L : List Sg) (v : Nat) (A : List Int) : List Int:=(List.range L.length).map fun q : Nat=>if (q : Int) ∈ A then (v : Int) else lastN L q v
theorem lasL_len (L : List Sg) (v : Nat) (A : List Int) : (lasL L v A).length = L.length:=by simp [lasL]
theorem lasL_zero (L : List Sg) : lasL L 0 [] = List.replicate L.length (-1):=by
  unfold lasL
  refine List.ext_getElem (by simp) fun i h1 h2=>?_
  simp [lastN]
theorem lasL_gt {L : List Sg} {v q : Nat} {A : List Int} (h : q < L.length) : gt (lasL L v A) q = if (q : Int) ∈ A then (v : Int) else lastN L q v:=by
  unfold gt lasL; rw [List.getElem?_map,List.getElem?_range h]; rfl
theorem lasL_set {L : List Sg} {v q : Nat} {A : List Int} (h : q < L.length) : (lasL L v A).set q (v : Int) = lasL L v (A ++ [(q : Int)]):=by
  refine List.ext_getElem (by simp [lasL]) fun i h1 h2=>?_
  rw [List.getElem_set]
  simp only [lasL,List.getElem_map,List.getElem_range]
  by_cases e : q = i
  · subst e; rw [if_pos rfl,if_pos (by simp)]
  · rw [if_neg e]
    have : ((i : Int) ∈ A ++ [(q : Int)]) ↔ (i : Int) ∈ A:=by simp; omega
    by_cases hm : (i : Int) ∈ A
    · rw [if_pos hm,if_pos (this.2 hm)]
    · rw [if_neg hm,if_neg fun h=>hm (this.1 h)]
theorem lasL_next (L : List Sg) (v : Nat) : lasL L v (hcZ L v) = lasL L (v + 1) []:=by
  unfold lasL
  refine List.map_congr_left fun q hq=>?_
  have hq:=List.mem_range.1 hq
  have hm : (q : Int) ∈ hcZ L v ↔ onG L q v = true:=onL_mem hq
  rw [if_neg (by simp : ¬ (q : Int) ∈ ([] : List Int))]
  show _ = if onG L q v = true then (v : Int) else lastN L q v
  by_cases h : onG L q v = true
  · rw [if_pos (hm.2 h),if_pos h]
  · rw [if_neg fun h'=>h (hm.1 h'),if_neg h]
theorem onN_srt (L : List Sg) (p : Pt) : ∀ n,(onN L p n).Pairwise (· < ·)
  | 0=>List.Pairwise.nil
  | n + 1=>by
    show (onN L p n ++ if onF (gq L n) p = true then [(n : Int)] else []).Pairwise (· < ·)
    rw [List.pairwise_append]
    refine ⟨onN_srt L p n,by split <;> simp,fun a ha b hb=>?_⟩
    split at hb
    · rw [List.mem_singleton] at hb
      obtain ⟨k,hk,rfl,_⟩:=onN_mem.1 ha
      omega
    · simp at hb
/-- Segment k of point v: its number. -/
theorem hcZ_at {L : List Sg} {v k : Nat} (h : k < (hcZ L v).length) : ∃ n : Nat,gt (hcZ L v) k = (n : Int) ∧ n < L.length ∧ ¬ (n : Int) ∈ (hcZ L v).take k ∧ (hcZ L v).take (k + 1) = (hcZ L v).take k ++ [(n : Int)]:=by
  have hm : (hcZ L v)[k] ∈ hcZ L v:=List.getElem_mem h
  obtain ⟨n,hn,e,_⟩:=onN_mem.1 hm
  have hg : gt (hcZ L v) k = (hcZ L v)[k]:=by unfold gt; rw [List.getElem?_eq_getElem h]; rfl
  refine ⟨n,by rw [hg,e],hn,fun hc=>?_,by rw [List.take_add_one,List.getElem?_eq_getElem h,e]; rfl⟩
  obtain ⟨i,hi,hie⟩:=List.getElem_of_mem hc
  rw [List.length_take] at hi
  rw [List.getElem_take] at hie
  have hs : (hcZ L v).Pairwise (· < ·):=onN_srt L (gpq L v).1 L.length
  rw [List.pairwise_iff_getElem] at hs
  have:=hs i k (by omega) h (by omega)
  omega
theorem rowA_no {L : List Sg} {v n : Nat} (h : ¬ 0 ≤ lastN L n v) : rowA L v [(n : Int)] = []:=by simp [rowA,h]
theorem rowA_yes {L : List Sg} {v n : Nat} (h : 0 ≤ lastN L n v) : rowA L v [(n : Int)] = [((lastN L n v,(v : Int)),(n : Int))]:=by simp [rowA,h]
/-- What was told up to segment k of point v. -/
def evV (L : List Sg) (v k : Nat) : List (Ek × Int):=evA L v ++ rowA L v ((hcZ L v).take k)
theorem evV_zero (L : List Sg) (v : Nat) : evV L v 0 = evA L v:=by simp [evV,rowA]
theorem evV_end {L : List Sg} {v k : Nat} (h : (hcZ L v).length ≤ k) : evV L v k = evA L (v + 1):=by
  show _ = evA L v ++ rowA L v (hcZ L v)
  unfold evV; rw [List.take_of_length_le h]
theorem evV_step {L : List Sg} {v k n : Nat} (h : (hcZ L v).take (k + 1) = (hcZ L v).take k ++ [(n : Int)]) : evV L v (k + 1) = evV L v k ++ rowA L v [(n : Int)]:=by unfold evV; rw [h,rowA_app,List.append_assoc]
theorem evV_len (L : List Sg) (v k : Nat) : (evV L v k).length ≤ (v + 1) * L.length:=by
  unfold evV
  rw [List.length_append]
  have h1:=evA_len L v
  have h2:=rowA_len L v ((hcZ L v).take k)
  have h3 : ((hcZ L v).take k).length ≤ L.length:=Nat.le_trans (by rw [List.length_take]; exact Nat.min_le_right _ _) (onN_len L (gpq L v).1 L.length)
  rw [Nat.add_mul]; omega
theorem memE_old {E : List Ed} {k : Ek} {n : Int} (h : k ∈ E.map (·.1)) : memE (addE E k n) = memE E:=by
  have e:=addE_key E k n
  rw [if_pos h] at e
  unfold memE ixE; rw [e]
theorem memE_get {E : List Ed} {k : Ek} : memE E k = if k ∈ E.map (·.1) then some (.int .i64 (ixE E k : Nat)) else none:=rfl
theorem flC_srt (L : List Sg) (m : Nat) (k : Ek) : ∀ i,(flC L m k i).Pairwise (· < ·) ∧ ∀ z ∈ flC L m k i,z < i
  | 0=>by simp [flC]
  | i + 1=>by
    obtain ⟨h1,h2⟩:=flC_srt L m k i
    unfold flC
    refine ⟨List.pairwise_append.2 ⟨h1,by split <;> simp,fun a ha b hb=>?_⟩,fun z hz=>?_⟩
    · split at hb
      · rw [List.mem_singleton] at hb; have:=h2 a ha; omega
      · simp at hb
    · rcases List.mem_append.1 hz with h | h
      · have:=h2 z h; omega
      · split at h
        · rw [List.mem_singleton] at h; omega
        · simp at h
theorem gat_srt {L : List Sg} {v : Nat} {e : Ed} (h : e ∈ gatF (evA L v)) : e.2.Pairwise (· < ·):=by
  rw [(gatF_ok (evA L v)).2.seg e h,sgO_A]
  exact (flC_srt L v e.1 L.length).1
end Go.Proofs.YtjbbbkfdcegfmaaGreat

/- The kit's contract of slices.SortFunc at a row that is nil. -/
namespace Go.Proofs.YtjbbbkfdcegfmaaGreat
open Go Go.RowKit Go.Sort
theorem sortZ_ac {P : Program} {ρ : Shelf.Ren} (L : SlLaysF0.n6 P ρ) (f : Nat) (caps : List AV) (HP : Heap) (nx : Nat) :
    ACall P (ρ.f 6) [.nsl,.fn f caps] HP nx (fun r H' nx'=>r = .tup [] ∧ nx' = nx ∧ H' = HP):=by
  intro w0 w β vs h1 h2
  obtain ⟨v1,r1,rfl,rfl,v2,r2,rfl,hv2,rfl⟩:=h2
  obtain ⟨cb,rfl,hcp⟩:=hv2
  refine (AnyF.slices_SortFunc_none { L with } none 0 (.func (.func f) #[] cb) w).mono ?_
  rintro e w' ⟨rfl,rfl⟩
  exact ⟨_,.tup [],HP,nx,β,rfl,⟨rfl,rfl,rfl⟩,h1,⟨#[],rfl,rfl⟩,Mon.refl _ _ _,KeepF.refl _ _⟩
end Go.Proofs.YtjbbbkfdcegfmaaGreat

/- Edges of a segment; where a number stands in a row. -/
namespace Go.Proofs.YtjbbbkfdcegfmaaGreat
open Go Go.RowKit

theorem edL_b {L : List Sg} (h1 : L.length ≤ 40) (h2 : (hitP L).length ≤ 1680) : (edL L).length ≤ 67200 ∧ ∀ e ∈ edL L,e.2.length ≤ 67200:=by
  have h3 : L.length * (hitP L).length ≤ 40 * 1680:=Nat.mul_le_mul h1 h2
  have h4:=evB_len L (hitP L).length L.length
  exact ⟨by have:=insF_len (evB L (hitP L).length L.length); show (insF _).length ≤ _; omega,fun e he=>by have:=insF_seg he; omega⟩
/-- The cells of an edge told for good. -/
theorem edC_at {E : List Ed} {i : Nat} (h : i < E.length) : (E.map edC)[i]? = some [.int .i64 (edq E i).1.1,.int .i64 (edq E i).1.2,Wd .i64 (edq E i).2]:=by rw [List.getElem?_map,edq_get h]; rfl
end Go.Proofs.YtjbbbkfdcegfmaaGreat

/- The kit's contract of slices.SortFunc at numbers with a comparison, as a call on a row of one's own. -/
namespace Go.Proofs.YtjbbbkfdcegfmaaGreat
open Go Go.RowKit Go.Sort

section
variable {α : Type} [Inhabited α] {P : Program} {ρ : Shelf.Ren}
theorem sortWorld_K (enc : α → Value) (w : World) (blk off m : Nat) (dk : Array α) (os : Array Obj) : sortWorld enc w blk off m dk os = sortWorldK (fun x=>[enc x]) 1 w blk off m dk os:=by
  unfold sortWorld sortWorldK
  rw [putRow_K]
theorem sort1_ac (L : SlLaysF.n6 P ρ) (cell : α → Int) (cv : α → α → Int) (f : Nat) (caps : List AV) (hcb : hasBody P f = true) (hc : ∀ x y,FC P f (.int .i64 (cell x) :: .int .i64 (cell y) :: caps) (.int .i64 (cv x y))) (hswo : SWO (ltc cv)) (d : Array α) (n id : Nat) (HP : Heap) (nx : Nat) (hn : d.size = n) (hH : HP id = some (1,rwA (fun x=>[AV.int .i64 (cell x)]) d)) (h0 : 0 < n) (hl : n ≤ 1099511627776) :
    ACall P (ρ.f 6) [.osl id 0 n,.fn f caps] HP nx (fun r H' nx'=>r = .tup [] ∧ H' = hupd HP id (some (1,rwA (fun x=>[AV.int .i64 (cell x)]) (Sort.sort (ltc cv) d))) ∧ nx ≤ nx'):=by
  intro w0 w β vs h1 h2
  obtain ⟨v1,r1,rfl,hv1,v2,r2,rfl,hv2,rfl⟩:=h2
  obtain ⟨cb,rfl,hcbv⟩:=hv2
  obtain ⟨l,hl1,hz,c,elem,hg,vss,hvs,hcs⟩:=h1.blk id 1 _ hH
  obtain ⟨a,cap,rfl,hcap,hor⟩:=hv1.2.2 l hl1
  obtain rfl : a = some ⟨l.g,l.o,none⟩:=by
    rcases hor with h | ⟨h,_⟩
    · omega
    · rwa [Nat.zero_mul,Nat.add_zero] at h
  subst hn
  have hval : ∀ x w β b,VRL w β b [AV.int .i64 (cell x)] [Value.int .i64 (cell x)]:=fun x w β b=>⟨_,_,rfl,rfl,rfl⟩
  obtain rfl:=vrll_is (fun e he=>by simp only [rwA,List.mem_map] at he; obtain ⟨x,_,rfl⟩:=he; rfl) hvs
  have hB : RowV (fun x=>[Value.int .i64 (cell x)]) 1 w l d:=⟨hz,c,elem,hg,fun e he j u hu=>(hcs e _ (by rw [List.getElem?_map,rwA_get he]; rfl)).2 j u hu⟩
  have hH' : HP id ≠ none:=by rw [hH]; simp
  have eg : ∀ args w,(callFunc f args).run P w = .ok (.enter f args) w:=hasBody_run hcb
  have hcmp : CmpLays1 P f cb (fun x=>Value.int .i64 (cell x)) cv l.g l.o d.size w:=by
    intro m os dk hdk x y
    obtain ⟨hr,hm⟩:=sortW_hr (cells:=fun x=>[AV.int .i64 (cell x)]) (val:=fun x=>[Value.int .i64 (cell x)]) (k:=1) (fun _=>rfl) (fun x=>hval x _ _ _) h1 hH' hl1 hB m dk hdk os
    rw [sortWorld_K]
    have q:=hc x y (sortWorldK (fun x=>[Value.int .i64 (cell x)]) 1 w l.g l.o m dk os) β (bornB nx) nx (#[Value.int .i64 (cell x),.int .i64 (cell y)] ++ cb).toList
      (fun i l' hi=>⟨(hr.dom i l' hi).2.1,by have:=(hr.dom i l' hi).2.2; simpa [bornB] using this⟩) hr.inj
      (by rw [Array.toList_append]; exact ⟨_,_,rfl,rfl,_,_,rfl,rfl,VRL.mon hm _ _ hcbv⟩)
    rw [Array.toArray_toList] at q
    refine q.mono ?_
    rintro e w' ⟨v,rfl,hv,hb⟩
    have : v = .int .i64 (cv x y):=hv (bornB nx)
    exact ⟨by rw [this],below_grow hb⟩
  have h:=Any.slices_SortFunc_eq L (fun x=>Value.int .i64 (cell x)) (fun _=>rfl) cv hswo f cb l.g l.o cap d w eg hcmp (holds_K (sortW_holds (val:=fun x=>[Value.int .i64 (cell x)]) (k:=1) (fun _=>rfl) hB)) (h1.dom id l hl1).2.1 (by omega)
  refine h.mono ?_
  rintro e w' ⟨rfl,m,os,rfl⟩
  have hs : (pdq (ltOf cv) d 0 d.size (Lib.bitLen d.size) true true) = Sort.sort (ltc cv) d:=by rw [bitLen_sort _ (by omega)]; rfl
  rw [hs,sortWorld_K]
  obtain ⟨hr,hm⟩:=sortW_hr (cells:=fun x=>[AV.int .i64 (cell x)]) (val:=fun x=>[Value.int .i64 (cell x)]) (k:=1) (fun _=>rfl) (fun x=>hval x _ _ _) h1 hH' hl1 hB m _ (Sort.sort_sorts _ hswo d).1.1 os
  exact ⟨_,.tup [],_,nx,β,rfl,⟨rfl,rfl,Nat.le_refl _⟩,hr,⟨#[],rfl,rfl⟩,hm,KeepF.refl _ _⟩
end
end Go.Proofs.YtjbbbkfdcegfmaaGreat

/- Each point of the plan has a half that leaves it; rows of halves of one's own. -/
namespace Go.Proofs.YtjbbbkfdcegfmaaGreat
open Go Go.RowKit

section
variable {L : List Sg} (hg : ∀ s ∈ L,s.good = true)
theorem flC_has {L : List Sg} {m : Nat} {k : Ek} {j : Nat} (hc : isC L m k j = true) : ∀ {i : Nat},j < i → (j : Int) ∈ flC L m k i
  | 0,h=>by omega
  | i + 1,h=>by
    unfold flC
    rcases Nat.lt_or_ge j i with q | q
    · exact List.mem_append_left _ (flC_has hc q)
    · obtain rfl : j = i:=by omega
      rw [if_pos hc]; simp
theorem key_has {i a b : Nat} (hi : i < L.length) (hb : b < (hitP L).length) (ho : onG L i b = true) (hl : lastN L i b = a) : ∃ j,j < (edL L).length ∧ (edq (edL L) j).1 = ((a : Int),(b : Int)):=by
  have hc : isC L (hitP L).length ((a : Int),(b : Int)) i = true:=by
    simp [isC,ho,hl,hb]
  have hm:=flC_has hc hi
  rw [← sgO_B] at hm
  have hk : ((a : Int),(b : Int)) ∈ (edL L).map (·.1):=((insF_ok (evB L (hitP L).length L.length)).2.key _).2 (sgO_mem.2 (List.ne_nil_of_mem hm))
  obtain ⟨e,he,hke⟩:=List.mem_map.1 hk
  obtain ⟨j,hj,hje⟩:=List.getElem_of_mem he
  exact ⟨j,hj,by rw [← hke,← hje]; simp [edq,hj]⟩
theorem lastN_of {i : Nat} : ∀ {v c : Nat},c < v → onG L i c = true → c ≤ lastN L i v
  | 0,c,h,_=>by omega
  | v + 1,c,h,ho=>by
    unfold lastN
    by_cases hv : onG L i v = true
    · rw [if_pos hv]; omega
    · rw [if_neg hv]
      rcases Nat.lt_or_ge c v with q | q
      · exact lastN_of q ho
      · obtain rfl : c = v:=by omega
        exact absurd ho hv
include hg
theorem hit_on {v : Nat} (hv : v < (hitP L).length) : ∃ i,i < L.length ∧ onG L i v = true:=by
  have hm : gpq L v ∈ hitP L:=by unfold gpq; rw [List.getD_eq_getElem?_getD,List.getElem?_eq_getElem hv]; exact List.getElem_mem hv
  obtain ⟨i,hi,h⟩:=seqM_mem.1 (hitP_mem.1 hm)
  have gi:=hg _ (gq_mem hi)
  refine ⟨i,hi,?_⟩
  unfold onG
  rcases h with h | h | h
  · rw [h,show (toG (ptS (gq L i).a)).1 = ptS (gq L i).a from toG_val (pt3_ok _ _ _) (ptS_gd (good_a gi))]; exact on_a gi
  · rw [h,show (toG (ptS (gq L i).b)).1 = ptS (gq L i).b from toG_val (pt3_ok _ _ _) (ptS_gd (good_b gi))]; exact on_b gi
  · obtain ⟨k,hk,h1,h2⟩:=rowM_mem.1 h
    have gk:=hg _ (gq_mem (show k < L.length by omega))
    obtain ⟨m1,m2,m3⟩:=meet_one gi gk h1
    have hok:=mtF_ok (gq L i) (gq L k)
    rw [mtF_good gi gk] at hok
    rw [h2,toG_val hok.1 m1]; exact m2
theorem hit_ends {i : Nat} (hi : i < L.length) : ∃ a b,a < (hitP L).length ∧ b < (hitP L).length ∧ a ≠ b ∧ onG L i a = true ∧ onG L i b = true:=by
  have gi:=hg _ (gq_mem hi)
  have va : (toG (ptS (gq L i).a)).1 = ptS (gq L i).a:=toG_val (pt3_ok _ _ _) (ptS_gd (good_a gi))
  have vb : (toG (ptS (gq L i).b)).1 = ptS (gq L i).b:=toG_val (pt3_ok _ _ _) (ptS_gd (good_b gi))
  obtain ⟨a,ha,ea⟩:=List.getElem_of_mem (endA_hit hi)
  obtain ⟨b,hb,eb⟩:=List.getElem_of_mem (endB_hit hi)
  have qa : gpq L a = (hitP L)[a]:=by unfold gpq; rw [List.getD_eq_getElem?_getD,List.getElem?_eq_getElem ha]; rfl
  have qb : gpq L b = (hitP L)[b]:=by unfold gpq; rw [List.getD_eq_getElem?_getD,List.getElem?_eq_getElem hb]; rfl
  refine ⟨a,b,ha,hb,fun e=>?_,?_,?_⟩
  · subst e
    have h1 : ptS (gq L i).a = ptS (gq L i).b:=by
      rw [← va,← vb,← ea,← eb]
    obtain ⟨x1,x2,_⟩:=ptS_v (good_a gi)
    obtain ⟨y1,y2,_⟩:=ptS_v (good_b gi)
    rw [h1] at x1 x2
    have:=good_ax gi
    omega
  · unfold onG; rw [qa,ea]; rw [va]; exact on_a gi
  · unfold onG; rw [qb,eb]; rw [vb]; exact on_b gi
theorem hit_half {v : Nat} (hv : v < (hitP L).length) : ∃ h,h < 2 * (edL L).length ∧ hfr (edL L) h = v:=by
  obtain ⟨i,hi,ho⟩:=hit_on hg hv
  have fin : ∀ c,c < (hitP L).length → c ≠ v → onG L i c = true → ∃ h,h < 2 * (edL L).length ∧ hfr (edL L) h = v:=by
    intro c hc hne hoc
    rcases Nat.lt_or_ge c v with q | q
    · have h0:=lastN_of (L:=L) q hoc
      obtain ⟨a,ha,_⟩:=lastN_at (show 0 ≤ lastN L i v by omega)
      obtain ⟨j,hj,hk⟩:=key_has hi hv ho ha
      exact ⟨2 * j + 1,by omega,by unfold hfr; rw [if_neg (by omega),show (2 * j + 1) / 2 = j by omega,hk]⟩
    · -- the first point behind v
      have : ∃ b,v < b ∧ b < (hitP L).length ∧ onG L i b = true ∧ lastN L i b = v:=by
        have key : ∀ n,v < n → n ≤ c + 1 → (∀ d,v < d → d < n → onG L i d = false) → lastN L i n = v:=by
          intro n h1 h2 h3
          have a1:=lastN_of (L:=L) h1 ho
          obtain ⟨a,ha,hlt,hon,_⟩:=lastN_at (show 0 ≤ lastN L i n by omega)
          rcases Nat.lt_or_ge v a with q | q
          · rw [h3 a q hlt] at hon; exact Bool.noConfusion hon
          · omega
        have ex : ∀ k n,n + k = c → v < n → (∀ d,v < d → d < n → onG L i d = false) → ∃ b,v < b ∧ b < (hitP L).length ∧ onG L i b = true ∧ lastN L i b = v:=by
          intro k
          induction k with
          | zero => intro n e h1 h2; obtain rfl : n = c := by omega
                    exact ⟨n,h1,hc,hoc,key n h1 (by omega) h2⟩
          | succ k ih =>
            intro n e h1 h2
            cases hn : onG L i n with
            | true=>exact ⟨n,h1,by omega,hn,key n h1 (by omega) h2⟩
            | false =>
              refine ih (n + 1) (by omega) (by omega) fun d d1 d2=>?_
              rcases Nat.lt_or_ge d n with q | q
              · exact h2 d d1 q
              · rw [show d = n by omega]; exact hn
        exact ex (c - (v + 1)) (v + 1) (by omega) (by omega) fun d d1 d2=>by omega
      obtain ⟨b,h1,h2,h3,h4⟩:=this
      obtain ⟨j,hj,hk⟩:=key_has hi h2 h3 h4
      exact ⟨2 * j,by omega,by unfold hfr; rw [if_pos (by omega),show 2 * j / 2 = j by omega,hk]⟩
  obtain ⟨a,b,ha,hb,hab,oa,ob⟩:=hit_ends hg hi
  by_cases e : a = v
  · exact fin b hb (by omega) ob
  · exact fin a ha e oa
theorem bkt_ne {v : Nat} (hv : v < (hitP L).length) : bkt L v (2 * (edL L).length) ≠ []:=by
  obtain ⟨h,hh,hf⟩:=hit_half hg hv
  exact List.ne_nil_of_mem (bkt_mem.2 ⟨hh,hf⟩)
end
/-- Rows of numbers, each in a block of one's own; an empty one may be nil. -/
def rowX (f : Nat → Nat) (B : Nat → List Nat) (v : Nat) : List AV:=[if B v = [] then .nsl else .osl (f v) 0 (B v).length]
structure ArN (H : Heap) (lo hi io : Nat) (f : Nat → Nat) (B : Nat → List Nat) (m : Nat) : Prop where
  ixr : lo ≤ io ∧ io < hi
  top : H io = some (1,mkR (rowX f B) m)
  row : ∀ v,v < m → B v ≠ [] → lo ≤ f v ∧ f v < hi ∧ f v ≠ io ∧ H (f v) = some (1,wd .i64 ((B v).map fun x : Nat=>(x : Int)))
  inj : ∀ a b,a < m → b < m → B a ≠ [] → B b ≠ [] → f a = f b → a = b
def fsx (f : Nat → Nat) (v x : Nat) : Nat → Nat:=fun i=>if i = v then x else f i
def bsx (B : Nat → List Nat) (v : Nat) (l : List Nat) : Nat → List Nat:=fun i=>if i = v then l else B i
theorem ArN.push {H H' : Heap} {lo hi hi' io : Nat} {f : Nat → Nat} {B : Nat → List Nat} {m v0 i1 : Nat} {l : List Nat} (h : ArN H lo hi io f B m) (hv : v0 < m) (hl : l ≠ []) (hx : hi ≤ i1) (hx' : i1 < hi') (h1 : H' i1 = some (1,wd .i64 (l.map fun x : Nat=>(x : Int))))
    (h2 : H' io = some (1,(mkR (rowX f B) m).set v0 [.osl i1 0 l.length])) (he : ∀ q,lo ≤ q → q < hi → q ≠ io → (B v0 ≠ [] → q ≠ f v0) → H' q = H q) : ArN H' lo hi' io (fsx f v0 i1) (bsx B v0 l) m:=by
  have hr:=h.ixr
  refine ⟨⟨hr.1,by omega⟩,?_,fun v hvm hb=>?_,fun a b ha hb na nb e=>?_⟩
  · rw [h2]
    congr 2
    refine List.ext_getElem (by simp [mkR]) fun i a b=>?_
    simp only [mkR,List.getElem_set,List.getElem_map,List.getElem_range,rowX,fsx,bsx]
    by_cases e : i = v0
    · subst e; simp [hl]
    · simp [e]; intro h; exact absurd h.symm e
  · simp only [fsx,bsx] at hb ⊢
    by_cases e : v = v0
    · subst e
      simp only [if_true] at hb ⊢
      exact ⟨by omega,hx',by omega,h1⟩
    · rw [if_neg e] at hb ⊢
      rw [if_neg e]
      obtain ⟨a,b,c,d⟩:=h.row v hvm hb
      exact ⟨a,by omega,c,by rw [he _ a b c fun hb0 eq=>e (h.inj v v0 hvm hv hb hb0 eq)]; exact d⟩
  · simp only [fsx,bsx] at na nb e
    by_cases ea : a = v0 <;> by_cases eb : b = v0
    · omega
    · subst ea
      rw [if_pos rfl,if_neg eb] at e
      rw [if_neg eb] at nb
      have:=(h.row b hb nb).2.1
      omega
    · subst eb
      rw [if_neg ea,if_pos rfl] at e
      rw [if_neg ea] at na
      have:=(h.row a ha na).2.1
      omega
    · rw [if_neg ea,if_neg eb] at e
      rw [if_neg ea] at na
      rw [if_neg eb] at nb
      exact h.inj a b ha hb na nb e
/-- One row in another order. -/
theorem ArN.perm {H H' : Heap} {lo hi hi' io : Nat} {f : Nat → Nat} {B : Nat → List Nat} {m v0 : Nat} {l : List Nat} (h : ArN H lo hi io f B m) (hv : v0 < m) (hb0 : B v0 ≠ []) (hl : l.length = (B v0).length) (hh : hi ≤ hi') (h1 : H' (f v0) = some (1,wd .i64 (l.map fun x : Nat=>(x : Int))))
    (he : ∀ q,lo ≤ q → q < hi → q ≠ f v0 → H' q = H q) : ArN H' lo hi' io f (bsx B v0 l) m:=by
  have hr:=h.ixr
  have h0:=h.row v0 hv hb0
  have hln : l ≠ []:=fun e=>hb0 (List.length_eq_zero_iff.1 (by rw [← hl,e]; rfl))
  have nz : ∀ v,bsx B v0 l v ≠ [] ↔ B v ≠ []:=fun v=>by
    unfold bsx
    by_cases e : v = v0
    · subst e; simp [hln,hb0]
    · rw [if_neg e]
  refine ⟨⟨hr.1,by omega⟩,?_,fun v hvm hb=>?_,fun a b ha hb na nb e=>h.inj a b ha hb ((nz a).1 na) ((nz b).1 nb) e⟩
  · rw [he io hr.1 hr.2 (fun e=>h0.2.2.1 e.symm),h.top]
    congr 2
    unfold mkR
    refine List.map_congr_left fun v _=>?_
    unfold rowX bsx
    by_cases e : v = v0
    · subst e; simp [hln,hb0,hl]
    · simp [e]
  · have hb':=(nz v).1 hb
    obtain ⟨a,b,c,d⟩:=h.row v hvm hb'
    refine ⟨a,by omega,c,?_⟩
    unfold bsx
    by_cases e : v = v0
    · subst e; rw [if_pos rfl]; exact h1
    · rw [if_neg e,he _ a b fun eq=>e (h.inj v v0 hvm hv hb' hb0 eq)]; exact d
theorem ArN.to {H H' : Heap} {lo hi hi' io : Nat} {f : Nat → Nat} {B : Nat → List Nat} {m : Nat} (h : ArN H lo hi io f B m) (hh : hi ≤ hi') (he : ∀ q,lo ≤ q → q < hi → H' q = H q) : ArN H' lo hi' io f B m :=
  ⟨⟨h.ixr.1,by have:=h.ixr.2; omega⟩,by rw [he _ h.ixr.1 h.ixr.2]; exact h.top,fun v hv hb=>by
    obtain ⟨a,b,c,d⟩:=h.row v hv hb
    exact ⟨a,by omega,c,by rw [he _ a b]; exact d⟩,h.inj⟩
theorem ArN.congr {H : Heap} {lo hi io : Nat} {f : Nat → Nat} {B C : Nat → List Nat} {m : Nat} (h : ArN H lo hi io f B m) (e : ∀ v,v < m → B v = C v) : ArN H lo hi io f C m :=
  ⟨h.ixr,by
    rw [h.top]
    congr 2
    unfold mkR
    exact List.map_congr_left fun v hv=>by unfold rowX; rw [e v (List.mem_range.1 hv)],fun v hv hb=>by rw [← e v hv] at hb ⊢; exact h.row v hv hb,fun a b ha hb na nb=>h.inj a b ha hb (by rwa [e a ha]) (by rwa [e b hb])⟩
theorem bkt_next {L : List Sg} {h v0 : Nat} (hf : hfr (edL L) h = v0) (v : Nat) : bsx (fun v=>bkt L v h) v0 (bkt L v0 h ++ [h]) v = bkt L v (h + 1):=by
  unfold bsx
  by_cases e : v = v0
  · subst e; rw [if_pos rfl,bkt_yes hf]
  · rw [if_neg e,bkt_no (by omega)]
/-- Rows that are sorted, up to j. -/
def srj (L : List Sg) (j v : Nat) : List Nat:=if v < j then arV L v else bkt L v (2 * (edL L).length)
theorem srj_next (L : List Sg) (j v : Nat) : bsx (srj L j) j (arV L j) v = srj L (j + 1) v:=by
  unfold bsx srj
  by_cases e : v = j
  · subst e; rw [if_pos rfl,if_pos (by omega)]
  · rw [if_neg e]
    by_cases h : v < j
    · rw [if_pos h,if_pos (by omega)]
    · rw [if_neg h,if_neg (by omega)]
theorem arV_len (L : List Sg) (v : Nat) : (arV L v).length = (bkt L v (2 * (edL L).length)).length:=(arN_perm L v _).length_eq
end Go.Proofs.YtjbbbkfdcegfmaaGreat
