/- Rounded quotients, lengths, places on a stroke and directions, as plain numbers. No program is named here. Conditions: none. -/
import Derived.Test.YtafgknkcjohjeaaGreatDoorSlOpse
import Derived.Test.YtafgknkcjohjeaaGreatDoorTyFeate
import Derived.Test.YtafgknkcjohjeaaGreatDoorInkGe
namespace Go.Proofs.YtafgknkcjohjeaaGreatDoor
open Go Go.RowKit
def nearZ (n d:Int):Int:=(2 * n+d) / (2 * d)
theorem floor_div {n d:Int} (hd:0 < d):(if n.tmod d < 0 then n.tdiv d - 1 else n.tdiv d)=n / d:=by
 rcases Int.lt_or_le n 0 with h | h
 · have h1:=Int.mul_tdiv_add_tmod n d
   have h2:=Int.tmod_lt_of_pos n hd;have h3:=Int.lt_tmod_of_pos n hd
   have h4:n.tmod d≤0:=by
    have:=Int.tmod_nonneg (a:=-n) d (by omega);rw [Int.neg_tmod] at this;omega
   split
   · rename_i hr
     refine (Int.ediv_eq_iff_of_pos hd).2 ?_ |>.symm;have e:(n.tdiv d - 1) * d=d * n.tdiv d - d:=by rw [Int.sub_mul,Int.one_mul,Int.mul_comm]
     constructor <;> omega
   · rename_i hr
     refine (Int.ediv_eq_iff_of_pos hd).2 ?_ |>.symm;have e:n.tdiv d * d=d * n.tdiv d:=Int.mul_comm _ _;constructor <;> omega
 · have:=Int.tmod_nonneg d h
   rw [if_neg (by omega),Int.tdiv_eq_ediv_of_nonneg h]
theorem near_between {n far all:Int} (ha:0 < all) (h0:0≤far) (h1:far≤all):(0≤n→0≤nearZ (n * far) all∧nearZ (n * far) all≤n)∧(n≤0→n≤nearZ (n * far) all∧nearZ (n * far) all≤0):=by
 unfold nearZ;have hp:0 < 2 * all:=by omega
 constructor
 · intro hn
   have u1:0≤n * far:=Int.mul_nonneg hn h0;have u2:n * far≤n * all:=Int.mul_le_mul_of_nonneg_left h1 hn;constructor
   · exact Int.ediv_nonneg (by omega) (by omega)
   · refine Int.lt_add_one_iff.1 ((Int.ediv_lt_iff_lt_mul hp).2 ?_)
     have:(n+1) * (2 * all)=2 * (n * all)+2 * all:=by rw [Int.add_mul,Int.one_mul,Int.mul_left_comm]
     omega
 · intro hn
   have u1:n * far≤0:=Int.mul_nonpos_of_nonpos_of_nonneg hn h0;have u2:n * all≤n * far:=Int.mul_le_mul_of_nonpos_left hn h1;constructor
   · refine (Int.le_ediv_iff_mul_le hp).2 ?_
     have:n * (2 * all)=2 * (n * all):=Int.mul_left_comm ..;omega
   · refine Int.lt_add_one_iff.1 ((Int.ediv_lt_iff_lt_mul hp).2 ?_)
     omega
def farZ (a b:PPoint):Int:=(a.x - b.x) * (a.x - b.x)+(a.y - b.y) * (a.y - b.y)
def lenZ (a b:PPoint):Int:=(rootN (256 * farZ a b).toNat:Nat)
theorem sq_small {x:Int} (h1:-4095≤x) (h2:x≤4095):0≤x * x∧x * x≤16769025:=by
 constructor
 · rcases Int.le_total 0 x with h | h
   · exact Int.mul_nonneg h h
   · exact Int.mul_nonneg_of_nonpos_of_nonpos h h
 · rcases Int.le_total 0 x with h | h
   · exact Int.mul_le_mul h2 h2 h (by decide)
   · have:x * x=(-x) * (-x):=(Int.neg_mul_neg x x).symm
     rw [this];exact Int.mul_le_mul (show -x≤4095 by omega) (show -x≤4095 by omega) (by omega) (by decide)
theorem pointB_in {p:PPoint} (h:pointB p=true):0≤p.x∧p.x≤4095∧0≤p.y∧p.y≤4095∧0≤p.t∧p.t≤3600000:=by
 simp only [pointB,inR,Bool.and_eq_true,decide_eq_true_eq] at h;omega
theorem farZ_small {a b:PPoint} (ha:pointB a=true) (hb:pointB b=true):0≤farZ a b∧farZ a b≤33538050:=by
 have h1:=pointB_in ha;have h2:=pointB_in hb;have h3:=sq_small (x:=a.x - b.x) (by omega) (by omega);have h4:=sq_small (x:=a.y - b.y) (by omega) (by omega);unfold farZ;omega
theorem lenZ_small {a b:PPoint} (ha:pointB a=true) (hb:pointB b=true):0≤lenZ a b∧lenZ a b≤92661:=by
 have h:=farZ_small ha hb;have:=rootN_le (n:=(256 * farZ a b).toNat) (b:=92661) (by omega);unfold lenZ;omega
def arcZ (s:PStroke):Nat→Int
 | 0=>0
 | k+1=>arcZ s k+lenZ (pt s k) (pt s (k+1))
theorem arcZ_small {s:PStroke} (hs:strokeB s=true):∀ k,k < s.length→0≤arcZ s k∧arcZ s k≤k * 92661
 | 0,_=>by simp [arcZ]
 | k+1,hk=>by
   have ih:=arcZ_small hs k (by omega)
   have hp:∀ j,j < s.length→pointB (pt s j)=true:=fun j hj=>by
    have:=hs;rw [strokeB,Bool.and_eq_true] at this;have:=ptsOk_get this.1 hj;rw [ptOk,Bool.and_eq_true] at this;exact this.1
   have hl:=lenZ_small (hp k (by omega)) (hp (k+1) hk);rw [arcZ]
   push_cast
   omega
theorem arcZ_mono {s:PStroke} (k:Nat):arcZ s k≤arcZ s (k+1):=by
 rw [arcZ,lenZ]; omega
def hitZ (s:PStroke) (part parts:Int) (i:Nat):Bool:=decide (0 < i) && (decide (arcZ s i≠arcZ s (i - 1)) && decide (arcZ s (s.length - 1) * part≤arcZ s i * parts))
def placeZ (s:PStroke) (part parts:Int) (i:Nat):Int × Int :=
 let rest:=arcZ s (s.length - 1) * part - arcZ s (i - 1) * parts
 let all:=(arcZ s i - arcZ s (i - 1)) * parts
 ((pt s (i - 1)).x+nearZ (((pt s i).x - (pt s (i - 1)).x) * rest) all,(pt s (i - 1)).y+nearZ (((pt s i).y - (pt s (i - 1)).y) * rest) all)
def spotZ (s:PStroke) (part parts:Int):Int × Int :=
 match (List.range s.length).find? (hitZ s part parts) with
 | some i=>placeZ s part parts i
 | none=>((pt s 0).x,(pt s 0).y)
theorem before_hit {s:PStroke} {part parts:Int} (h0:0≤arcZ s (s.length - 1) * part):∀ j,(∀ i,i≤j→hitZ s part parts i=false)→arcZ s j * parts≤arcZ s (s.length - 1) * part
 | 0,_=>by rw [arcZ,Int.zero_mul]; exact h0
 | j+1,h=>by
   have ih:=before_hit h0 j (fun i hi=>h i (by omega));have hj:=h (j+1) (Nat.le_refl _);rw [hitZ,Nat.add_sub_cancel] at hj
   by_cases e:arcZ s (j+1)=arcZ s j
   · rw [e]; exact ih
   · simp only [Nat.zero_lt_succ,decide_true,Bool.true_and,e,ne_eq,not_false_eq_true,decide_eq_false_iff_not] at hj
     omega
theorem between_small {a b n lo hi:Int} (ha:lo≤a∧a≤hi) (hb:lo≤b∧b≤hi) (hn:(0≤b - a→0≤n∧n≤b - a)∧(b - a≤0→b - a≤n∧n≤0)):lo≤a+n∧a+n≤hi:=by
 rcases Int.le_total 0 (b - a) with h | h
 · have:=hn.1 h; omega
 · have:=hn.2 h; omega
theorem spotZ_in {s:PStroke} {part parts xl xh yl yh:Int} (hs:strokeB s=true) (h0:0≤part) (h2:0 < parts) (hx:∀ j,j < s.length→xl≤(pt s j).x∧(pt s j).x≤xh) (hy:∀ j,j < s.length→yl≤(pt s j).y∧(pt s j).y≤yh):(xl≤(spotZ s part parts).1∧(spotZ s part parts).1≤xh)∧(yl≤(spotZ s part parts).2∧(spotZ s part parts).2≤yh):=by
 have hs':=hs;rw [strokeB,Bool.and_eq_true,Bool.and_eq_true,decide_eq_true_iff,decide_eq_true_iff] at hs';obtain ⟨p1,p2,p3⟩:=hs';have ha0:=arcZ_small hs (s.length - 1) (by omega);have w0:0≤arcZ s (s.length - 1) * part:=Int.mul_nonneg ha0.1 h0;rw [spotZ]
 split
 · rename_i i hi
   have hh:=List.find?_some hi;have hmem:=List.mem_of_find?_eq_some hi;rw [List.mem_range] at hmem
   have hbef:∀ j,j < i→hitZ s part parts j=false:=by
    intro j hj;rw [List.find?_range_eq_some] at hi
    simpa using hi.2.2 j hj
   rw [hitZ,Bool.and_eq_true,Bool.and_eq_true,decide_eq_true_iff,decide_eq_true_iff,decide_eq_true_iff] at hh;obtain ⟨q1,q2,q3⟩:=hh;have hm:=arcZ_mono (s:=s) (i - 1);rw [show i - 1+1=i by omega] at hm;have hlt:0 < arcZ s i - arcZ s (i - 1):=by omega
   have hall:0 < (arcZ s i - arcZ s (i - 1)) * parts:=Int.mul_pos hlt h2;have hb:=before_hit w0 (i - 1) (fun j hj=>hbef j (by omega));have hrest:0≤arcZ s (s.length - 1) * part - arcZ s (i - 1) * parts:=by omega
   have hre2:arcZ s (s.length - 1) * part - arcZ s (i - 1) * parts≤(arcZ s i - arcZ s (i - 1)) * parts:=by rw [Int.sub_mul]; omega
   exact ⟨between_small (hx (i - 1) (by omega)) (hx i hmem) (near_between hall hrest hre2),between_small (hy (i - 1) (by omega)) (hy i hmem) (near_between hall hrest hre2)⟩
 · exact ⟨hx 0 (by omega),hy 0 (by omega)⟩
structure BoxZ where
 x1:Int
 y1:Int
 x2:Int
 y2:Int
 deriving DecidableEq
def joinZ (a b:BoxZ):BoxZ:=⟨min a.x1 b.x1,min a.y1 b.y1,max a.x2 b.x2,max a.y2 b.y2⟩
def ptBox (p:PPoint):BoxZ:=⟨p.x,p.y,p.x,p.y⟩
def boxOfZ (s:PStroke):BoxZ:=s.foldl (fun b p=>joinZ b (ptBox p)) (ptBox (pt s 0))
def boxAllZ (xs:List PStroke):BoxZ:=xs.foldl (fun b s=>joinZ b (boxOfZ s)) (boxOfZ (strk xs 0))
theorem joinZ_self (a:BoxZ):joinZ a a=a:=by cases a; simp [joinZ]
def InZ (a b:BoxZ):Prop:=b.x1≤a.x1∧b.y1≤a.y1∧a.x2≤b.x2∧a.y2≤b.y2
theorem InZ.refl (a:BoxZ):InZ a a:=⟨Int.le_refl _,Int.le_refl _,Int.le_refl _,Int.le_refl _⟩
theorem InZ.trans {a b c:BoxZ} (h:InZ a b) (k:InZ b c):InZ a c:=by unfold InZ at *; omega
theorem InZ.left (a b:BoxZ):InZ a (joinZ a b):=by simp only [InZ,joinZ]; omega
theorem InZ.right (a b:BoxZ):InZ b (joinZ a b):=by simp only [InZ,joinZ]; omega
theorem InZ.join {a b c:BoxZ} (h:InZ a c) (k:InZ b c):InZ (joinZ a b) c:=by simp only [InZ,joinZ] at *; omega
theorem foldZ_in {α:Type} (f:α→BoxZ):∀ (l:List α) (b:BoxZ),InZ b (l.foldl (fun b p=>joinZ b (f p)) b)∧∀ p∈l,InZ (f p) (l.foldl (fun b p=>joinZ b (f p)) b)
 | [],b=>⟨InZ.refl b,by simp⟩
 | p :: l,b=>by
   obtain ⟨h1,h2⟩:=foldZ_in f l (joinZ b (f p));rw [List.foldl_cons];refine ⟨(InZ.left _ _).trans h1,fun q hq=>?_⟩;rcases List.mem_cons.1 hq with rfl | hq
   · exact (InZ.right _ _).trans h1
   · exact h2 q hq
theorem foldZ_least {α:Type} (f:α→BoxZ) (c:BoxZ):∀ (l:List α) (b:BoxZ),InZ b c→(∀ p∈l,InZ (f p) c)→InZ (l.foldl (fun b p=>joinZ b (f p)) b) c
 | [],b,h,_=>h
 | p :: l,b,h,hl=>by
   rw [List.foldl_cons];exact foldZ_least f c l _ (h.join (hl p (List.mem_cons_self ..))) (fun q hq=>hl q (List.mem_cons_of_mem _ hq))
theorem boxOfZ_pt {s:PStroke} {j:Nat} (h:j < s.length):InZ (ptBox (pt s j)) (boxOfZ s):=by
 rw [pt_get h];exact (foldZ_in ptBox s _).2 _ (List.getElem_mem h)
theorem boxAllZ_in {xs:List PStroke} {s:PStroke} (h:s∈xs):InZ (boxOfZ s) (boxAllZ xs):=(foldZ_in boxOfZ xs _).2 s h
def sideZ (b:BoxZ):Int:=max (max (b.x2 - b.x1) (b.y2 - b.y1)) 1
def normZ (p:Int × Int) (b:BoxZ):Int × Int :=
 ((255 - (b.x2 - b.x1) * 255 / sideZ b) / 2+nearZ ((p.1 - b.x1) * 255) (sideZ b),(255 - (b.y2 - b.y1) * 255 / sideZ b) / 2+nearZ ((p.2 - b.y1) * 255) (sideZ b))
theorem norm_one {w m side:Int} (hs:0 < side) (hw:w≤side) (h0:0≤m) (hm:m≤w):0≤(255 - w * 255 / side) / 2+nearZ (m * 255) side∧(255 - w * 255 / side) / 2+nearZ (m * 255) side≤255:=by
 have q1:=Int.emod_nonneg (w * 255) (show side≠0 by omega);have q2:=Int.emod_lt_of_pos (w * 255) hs;have q3:=Int.mul_ediv_add_emod (w * 255) side;generalize hq:w * 255 / side=q at *;have q0:0≤q:=by rw [← hq]; exact Int.ediv_nonneg (by omega) (by omega)
 have q4:q≤255:=by
  rw [← hq];refine Int.lt_add_one_iff.1 ((Int.ediv_lt_iff_lt_mul hs).2 ?_);omega
 have n0:0≤nearZ (m * 255) side:=Int.ediv_nonneg (by omega) (by omega)
 have n1:nearZ (m * 255) side≤255:=by
  refine Int.lt_add_one_iff.1 ((Int.ediv_lt_iff_lt_mul (by omega)).2 ?_);omega
 have n2:nearZ (m * 255) side≤q+1:=by
  refine Int.lt_add_one_iff.1 ((Int.ediv_lt_iff_lt_mul (by omega)).2 ?_);have e:(q+1+1) * (2 * side)=2 * (side * q)+4 * side:=by rw [Int.add_mul,Int.add_mul,Int.mul_left_comm,Int.mul_comm q side]; omega
  omega
 omega
theorem normZ_small {p:Int × Int} {b:BoxZ} (hx:b.x1≤p.1∧p.1≤b.x2) (hy:b.y1≤p.2∧p.2≤b.y2):(0≤(normZ p b).1∧(normZ p b).1≤255)∧(0≤(normZ p b).2∧(normZ p b).2≤255):=by
 have hs:0 < sideZ b:=by unfold sideZ; omega
 have h1:b.x2 - b.x1≤sideZ b:=by unfold sideZ; omega
 have h2:b.y2 - b.y1≤sideZ b:=by unfold sideZ; omega
 exact ⟨norm_one hs h1 (by omega) (by omega),norm_one hs h2 (by omega) (by omega)⟩
def absZ (n:Int):Int:=if n < 0 then -n else n
def dirZ (dx dy:Int):Int :=
 if (absZ dx+absZ dy) * (absZ dx+absZ dy)≤2 * absZ dx * absZ dx then (if dx > 0 then 0 else 4)
 else if (absZ dx+absZ dy) * (absZ dx+absZ dy)≤2 * absZ dy * absZ dy then (if dy > 0 then 2 else 6)
 else if dx > 0∧dy > 0 then 1
 else if dy > 0 then 3
 else if dx < 0 then 5 else 7
theorem dir_left {dx dy:Int} (h1:¬ (absZ dx+absZ dy) * (absZ dx+absZ dy)≤2 * absZ dx * absZ dx) (h2:¬ (absZ dx+absZ dy) * (absZ dx+absZ dy)≤2 * absZ dy * absZ dy):dx≠0∧dy≠0:=by
 constructor
 · rintro rfl
   apply h2;have:absZ 0=0:=rfl;rw [this,Int.zero_add,Int.mul_assoc];have:=Int.mul_nonneg (show 0≤absZ dy by unfold absZ; split <;> omega) (show 0≤absZ dy by unfold absZ; split <;> omega);omega
 · rintro rfl
   apply h1;have:absZ 0=0:=rfl;rw [this,Int.add_zero,Int.mul_assoc];have:=Int.mul_nonneg (show 0≤absZ dx by unfold absZ; split <;> omega) (show 0≤absZ dx by unfold absZ; split <;> omega);omega
theorem dirZ_small (dx dy:Int):0≤dirZ dx dy∧dirZ dx dy≤7:=by
 unfold dirZ
 repeat' split
 all_goals decide
section
variable {α κ:Type} [DecidableEq κ] {lt:α→α→Bool} {key:α→κ}
structure Best (lt:α→α→Bool) (key:α→κ) (seen L:List α):Prop where
 sorted:L.Pairwise (fun x y=>lt x y=true)
 mem:∀ h,h∈L↔h∈seen∧∀ g∈seen,key g=key h→lt g h=false
 rep:∀ g∈seen,∃ x∈L,key x=key g
omit [DecidableEq κ] in
theorem Best.nil:Best lt key [] []:=⟨.nil,fun h=>by simp,fun g hg=>by simp at hg⟩
omit [DecidableEq κ] in
theorem lt_or (o:STO lt) {a b:α} (h:lt b a=false) (hne:a≠b):lt a b=true:=by
 rcases o.cases a b with h1 | h1 | h1
 · exact h1.1
 · exact absurd h1 hne
 · rw [h1.2.1] at h; cases h
theorem eq_of (o:STO lt) {a b:α} (h1:lt a b=false) (h2:lt b a=false):a=b:=o.tot a b h1 h2
def keepK (key:α→κ) (out:List α) (h:α):List α:=if out.any (fun x=>decide (key x=key h)) then out else out++[h]
theorem Best.keep (o:STO lt) {p out:List α} {h:α} (b:Best lt key p out) (hs:∀ x∈p,lt h x=false):Best lt key (p++[h]) (keepK key out h):=by
 unfold keepK
 by_cases ha:out.any (fun x=>decide (key x=key h))=true
 · rw [if_pos ha]
   obtain ⟨x,hx,hk⟩:=List.any_eq_true.1 ha;have hk:=of_decide_eq_true hk;have hxp:=(b.mem x).1 hx;refine ⟨b.sorted,fun y=>?_,fun g hg=>?_⟩
   · rw [b.mem]
     constructor
     · rintro ⟨h1,h2⟩
       refine ⟨by simp [h1],fun g hg hgk=>?_⟩;rcases List.mem_append.1 hg with hg | hg
       · exact h2 g hg hgk
       · simp at hg; subst hg; exact hs y h1
     · rintro ⟨h1,h2⟩
       rcases List.mem_append.1 h1 with h1 | h1
       · exact ⟨h1,fun g hg=>h2 g (by simp [hg])⟩
       · simp at h1; subst h1
         have e:x=y:=eq_of o (h2 x (by simp [hxp.1]) hk) (hs x hxp.1);subst e; exact hxp
   · rcases List.mem_append.1 hg with hg | hg
     · exact b.rep g hg
     · simp at hg; subst hg; exact ⟨x,hx,hk⟩
 · rw [if_neg ha]
   have hno:∀ x∈out,key x≠key h:=fun x hx e=>ha (List.any_eq_true.2 ⟨x,hx,decide_eq_true e⟩)
   refine ⟨?_,fun y=>?_,fun g hg=>?_⟩
   · refine List.pairwise_append.2 ⟨b.sorted,List.pairwise_singleton ..,fun x hx z hz=>?_⟩
     simp at hz; subst hz
     exact lt_or o (hs x ((b.mem x).1 hx).1) (fun e=>hno x hx (by rw [e]))
   · rw [List.mem_append,b.mem,List.mem_singleton]
     constructor
     · rintro (⟨h1,h2⟩ | rfl)
       · refine ⟨by simp [h1],fun g hg hgk=>?_⟩
         rcases List.mem_append.1 hg with hg | hg
         · exact h2 g hg hgk
         · simp at hg; subst hg; exact hs y h1
       · refine ⟨by simp,fun g hg hgk=>?_⟩
         rcases List.mem_append.1 hg with hg | hg
         · obtain ⟨x,hx,hk⟩:=b.rep g hg
           exact absurd (hk.trans hgk) (hno x hx)
         · simp at hg; subst hg; exact o.irr g
     · rintro ⟨h1,h2⟩
       rcases List.mem_append.1 h1 with h1 | h1
       · exact .inl ⟨h1,fun g hg=>h2 g (by simp [hg])⟩
       · exact .inr (by simpa using h1)
   · rcases List.mem_append.1 hg with hg | hg
     · obtain ⟨x,hx,hk⟩:=b.rep g hg
       exact ⟨x,by simp [hx],hk⟩
     · simp at hg; subst hg; exact ⟨g,by simp,rfl⟩
def insS (lt:α→α→Bool) (h:α) (l:List α):List α:=l.filter (fun x=>!lt h x)++h :: l.filter (fun x=>lt h x)
def insK (lt:α→α→Bool) (key:α→κ) (L:List α) (h:α):List α:=if L.any (fun x=>decide (key x=key h) && !lt h x) then L else insS lt h (L.filter fun x=>!decide (key x=key h))
theorem insS_sorted (o:STO lt) {l:List α} {h:α} (hl:l.Pairwise (fun x y=>lt x y=true)) (hn:h∉l):(insS lt h l).Pairwise (fun x y=>lt x y=true):=by
 unfold insS;refine List.pairwise_append.2 ⟨hl.filter _,List.pairwise_cons.2 ⟨fun x hx=>?_,hl.filter _⟩,fun x hx y hy=>?_⟩
 · exact (List.mem_filter.1 hx).2
 · have h1:=List.mem_filter.1 hx
   have h2:lt h x=false:=by simpa using h1.2
   have h3:lt x h=true:=lt_or o h2 (fun e=>hn (e ▸ h1.1));rcases List.mem_cons.1 hy with rfl | hy
   · exact h3
   · exact o.tr _ _ _ h3 (List.mem_filter.1 hy).2
theorem insS_mem {l:List α} {h y:α}:y∈insS lt h l↔y=h∨y∈l:=by
 unfold insS;rw [List.mem_append,List.mem_cons,List.mem_filter,List.mem_filter];constructor
 · rintro (h1 | h1 | h1)
   · exact .inr h1.1
   · exact .inl h1
   · exact .inr h1.1
 · rintro (h1 | h1)
   · exact .inr (.inl h1)
   · cases hb:lt h y
     · exact .inl ⟨h1,by simp⟩
     · exact .inr (.inr ⟨h1,rfl⟩)
theorem Best.ins (o:STO lt) {s L:List α} {h:α} (b:Best lt key s L):Best lt key (s++[h]) (insK lt key L h):=by
 unfold insK
 by_cases ha:L.any (fun x=>decide (key x=key h) && !lt h x)=true
 · rw [if_pos ha]
   obtain ⟨x,hx,hk⟩:=List.any_eq_true.1 ha;simp only [Bool.and_eq_true,decide_eq_true_eq,Bool.not_eq_true'] at hk;have hxp:=(b.mem x).1 hx;refine ⟨b.sorted,fun y=>?_,fun g hg=>?_⟩
   · constructor
     · intro hy
       obtain ⟨h1,h2⟩:=(b.mem y).1 hy;refine ⟨by simp [h1],fun g hg hgk=>?_⟩;rcases List.mem_append.1 hg with hg | hg
       · exact h2 g hg hgk
       · simp at hg; subst hg
         have e:x=y:=eq_of o (h2 x hxp.1 (hk.1.trans hgk)) (hxp.2 y h1 (hgk.symm.trans hk.1.symm));rw [← e]; exact hk.2
     · rintro ⟨h1,h2⟩
       rcases List.mem_append.1 h1 with h1 | h1
       · exact (b.mem y).2 ⟨h1,fun g hg=>h2 g (by simp [hg])⟩
       · simp at h1; subst h1
         have e:x=y:=eq_of o (h2 x (by simp [hxp.1]) hk.1) hk.2;rw [← e]; exact hx
   · rcases List.mem_append.1 hg with hg | hg
     · exact b.rep g hg
     · simp at hg; subst hg; exact ⟨x,hx,hk.1⟩
 · rw [if_neg ha]
   have hall:∀ x∈L,key x=key h→lt h x=true:=fun x hx hk=>by
    cases hb:lt h x
    · exact absurd (List.any_eq_true.2 ⟨x,hx,by simp [hk,hb]⟩) ha
    · rfl
   have hmf:∀ y,y∈L.filter (fun x=>!decide (key x=key h))↔y∈L∧key y≠key h:=fun y=>by rw [List.mem_filter]; simp
   refine ⟨insS_sorted o (b.sorted.filter _) (fun hin=>((hmf h).1 hin).2 rfl),fun y=>?_,fun g hg=>?_⟩
   · rw [insS_mem,hmf]
     constructor
     · rintro (rfl | ⟨h1,hk⟩)
       · refine ⟨by simp,fun g hg hgk=>?_⟩
         rcases List.mem_append.1 hg with hg | hg
         · obtain ⟨x,hx,hxk⟩:=b.rep g hg
           have h3:=hall x hx (hxk.trans hgk);cases hb:lt g y
           · rfl
           · have h4:=((b.mem x).1 hx).2 g hg hxk.symm
             rw [o.tr _ _ _ hb h3] at h4; cases h4
         · simp at hg; subst hg; exact o.irr g
       · obtain ⟨h2,h3⟩:=(b.mem y).1 h1
         refine ⟨by simp [h2],fun g hg hgk=>?_⟩;rcases List.mem_append.1 hg with hg | hg
         · exact h3 g hg hgk
         · simp at hg; subst hg; exact absurd hgk.symm hk
     · rintro ⟨h1,h2⟩
       rcases List.mem_append.1 h1 with h1 | h1
       · have h3:y∈L:=(b.mem y).2 ⟨h1,fun g hg=>h2 g (by simp [hg])⟩
         refine .inr ⟨h3,fun hk=>?_⟩;have h4:=hall y h3 hk;rw [h2 h (by simp) hk.symm] at h4; cases h4
       · exact .inl (by simpa using h1)
   · rcases List.mem_append.1 hg with hg | hg
     · obtain ⟨x,hx,hk⟩:=b.rep g hg
       by_cases hkh:key x=key h
       · exact ⟨h,insS_mem.2 (.inl rfl),hkh.symm.trans hk⟩
       · exact ⟨x,insS_mem.2 (.inr ((hmf x).2 ⟨hx,hkh⟩)),hk⟩
     · simp at hg; subst hg; exact ⟨g,insS_mem.2 (.inl rfl),rfl⟩
theorem best_ins (o:STO lt):∀ (r s L:List α),Best lt key s L→Best lt key (s++r) (r.foldl (insK lt key) L)
 | [],s,L,b=>by rw [List.append_nil]; exact b
 | h :: r,s,L,b=>by
   rw [List.foldl_cons];have e:s++h :: r=(s++[h])++r:=by simp
   rw [e];exact best_ins o r _ _ (b.ins o)
end
def minO:Option Int→Option Int→Option Int
 | none,y=>y
 | x,none=>x
 | some x,some y=>some (min x y)
def encO (far:Int):Option Int→Int
 | none=>far
 | some v=>v
def LeO (far:Int) (x:Option Int):Prop:=∀ v,x=some v→v < far
theorem encO_min {far:Int} {x y:Option Int} (hx:LeO far x) (hy:LeO far y):encO far (minO x y)=min (encO far x) (encO far y):=by
 cases x with
 | none =>
   cases y with
   | none=>simp [minO,encO]
   | some y=>have:=hy y rfl; simp only [minO,encO]; omega
 | some x =>
   cases y with
   | none=>have:=hx x rfl; simp only [minO,encO]; omega
   | some y=>rfl
theorem LeO.min {far:Int} {x y:Option Int} (hx:LeO far x) (hy:LeO far y):LeO far (minO x y):=by
 intro v h;cases x with
 | none =>
   cases y with
   | none=>cases h
   | some y=>exact hy v h
 | some x =>
   cases y with
   | none=>exact hx v h
   | some y=>have:=hx x rfl; have:=hy y rfl; simp only [minO,Option.some.injEq] at h; omega
def elE (cost:Nat→Nat→Int) (band:Int):Nat→Nat→Option Int
 | 0,0=>if 0 > band then none else some (cost 0 0)
 | 0,j+1=>if ((j+1:Nat):Int) > band then none else (elE cost band 0 j).map (·+cost 0 (j+1))
 | i+1,0=>if ((i+1:Nat):Int) > band then none else (elE cost band i 0).map (·+cost (i+1) 0)
 | i+1,j+1=>if absE ((i:Int) - j) > band then none else (minO (minO (elE cost band i j) (elE cost band i (j+1))) (elE cost band (i+1) j)).map (·+cost (i+1) (j+1))
where absE (n:Int):Int:=if n < 0 then -n else n
theorem minO_cases {x y:Option Int} {v:Int} (h:minO x y=some v):x=some v∨y=some v:=by
 cases x with
 | none=>exact .inr h
 | some x =>
   cases y with
   | none=>exact .inl h
   | some y =>
     simp only [minO,Option.some.injEq] at h ⊢;omega
theorem elE_small {cost:Nat→Nat→Int} {band K:Int} (hc:∀ i j,0≤cost i j∧cost i j≤K):∀ i j v,elE cost band i j=some v→0≤v∧v≤((i+j+1:Nat):Int) * K
 | 0,0,v,h=>by
   rw [elE] at h
   split at h
   · cases h
   · injection h with h; subst h
     have:=hc 0 0;simp; omega
 | 0,j+1,v,h=>by
   rw [elE] at h
   split at h
   · cases h
   · obtain ⟨u,hu,rfl⟩:=Option.map_eq_some_iff.1 h
     have ih:=elE_small hc 0 j u hu;have:=hc 0 (j+1)
     have e:((0+(j+1)+1:Nat):Int) * K=((0+j+1:Nat):Int) * K+K:=by
      have:((0+(j+1)+1:Nat):Int)=((0+j+1:Nat):Int)+1:=by push_cast; omega
      rw [this,Int.add_mul,Int.one_mul]
     omega
 | i+1,0,v,h=>by
   rw [elE] at h
   split at h
   · cases h
   · obtain ⟨u,hu,rfl⟩:=Option.map_eq_some_iff.1 h
     have ih:=elE_small hc i 0 u hu;have:=hc (i+1) 0
     have e:((i+1+0+1:Nat):Int) * K=((i+0+1:Nat):Int) * K+K:=by
      have:((i+1+0+1:Nat):Int)=((i+0+1:Nat):Int)+1:=by push_cast; omega
      rw [this,Int.add_mul,Int.one_mul]
     omega
 | i+1,j+1,v,h=>by
   rw [elE] at h
   split at h
   · cases h
   · obtain ⟨u,hu,rfl⟩:=Option.map_eq_some_iff.1 h
     have:=hc (i+1) (j+1)
     have e:((i+1+(j+1)+1:Nat):Int) * K=((i+j+1:Nat):Int) * K+K+K:=by
      have:((i+1+(j+1)+1:Nat):Int)=((i+j+1:Nat):Int)+1+1:=by push_cast; omega
      rw [this,Int.add_mul,Int.add_mul,Int.one_mul]
     have e2:((i+(j+1)+1:Nat):Int) * K=((i+j+1:Nat):Int) * K+K:=by
      have:((i+(j+1)+1:Nat):Int)=((i+j+1:Nat):Int)+1:=by push_cast; omega
      rw [this,Int.add_mul,Int.one_mul]
     have e3:((i+1+j+1:Nat):Int) * K=((i+j+1:Nat):Int) * K+K:=by
      have:((i+1+j+1:Nat):Int)=((i+j+1:Nat):Int)+1:=by push_cast; omega
      rw [this,Int.add_mul,Int.one_mul]
     rcases minO_cases hu with hu | hu
     · rcases minO_cases hu with hu | hu
       · have:=elE_small hc i j u hu; omega
       · have:=elE_small hc i (j+1) u hu; omega
     · have:=elE_small hc (i+1) j u hu; omega
def befE (cost:Nat→Nat→Int) (band:Int):Nat→Nat→Option Int
 | 0,0=>some 0
 | 0,j+1=>elE cost band 0 j
 | i+1,0=>elE cost band i 0
 | i+1,j+1=>minO (minO (elE cost band i j) (elE cost band i (j+1))) (elE cost band (i+1) j)
theorem elE_bef (cost:Nat→Nat→Int) (band:Int) (hb:0≤band):∀ i j:Nat,elE cost band i j=if elE.absE ((i:Int) - j) > band then none else (befE cost band i j).map (·+cost i j)
 | 0,0=>by
   rw [elE,befE,if_neg (by omega),if_neg (by simp [elE.absE]; omega)]; simp
 | 0,j+1=>by
   rw [elE,befE];have e:elE.absE (((0:Nat):Int) - ((j+1:Nat):Int))=((j+1:Nat):Int):=by unfold elE.absE; split <;> omega
   rw [e]
 | i+1,0=>by
   rw [elE,befE];have e:elE.absE (((i+1:Nat):Int) - ((0:Nat):Int))=((i+1:Nat):Int):=by unfold elE.absE; split <;> omega
   rw [e]
 | i+1,j+1=>by
   rw [elE,befE];have e:(((i+1:Nat):Int) - ((j+1:Nat):Int))=(i:Int) - j:=by push_cast; omega
   rw [e]
theorem befE_small {cost:Nat→Nat→Int} {band K:Int} (hc:∀ i j,0≤cost i j∧cost i j≤K) (i j:Nat) (v:Int) (h:befE cost band i j=some v):0≤v∧v≤((i+j:Nat):Int) * K:=by
 cases i with
 | zero =>
   cases j with
   | zero=>injection h with h; subst h; simp
   | succ j=>have:=elE_small hc 0 j v h; rw [Nat.zero_add] at this ⊢; exact this
 | succ i =>
   have hK:0≤K:=by have:=hc 0 0; omega
   have mono:∀ {a b:Nat},a≤b→(a:Int) * K≤(b:Int) * K:=fun h=>Int.mul_le_mul_of_nonneg_right (by omega) hK
   cases j with
   | zero=>exact elE_small hc i 0 v h
   | succ j =>
     rcases minO_cases h with h | h
     · rcases minO_cases h with h | h
       · have:=elE_small hc i j v h; exact ⟨this.1,Int.le_trans this.2 (mono (by omega))⟩
       · have:=elE_small hc i (j+1) v h; exact ⟨this.1,Int.le_trans this.2 (mono (by omega))⟩
     · have:=elE_small hc (i+1) j v h; exact ⟨this.1,Int.le_trans this.2 (mono (by omega))⟩
theorem enc_cell {cost:Nat→Nat→Int} {band K far:Int} (hb:0≤band) (hc:∀ i j,0≤cost i j∧cost i j≤K) (i j:Nat) (hf:((i+j:Nat):Int) * K < far) :
 encO far (elE cost band i j)=if elE.absE ((i:Int) - j) > band∨far≤encO far (befE cost band i j) then far else encO far (befE cost band i j)+cost i j:=by
 rw [elE_bef cost band hb]
 by_cases h1:elE.absE ((i:Int) - j) > band
 · rw [if_pos h1,if_pos (.inl h1)]; rfl
 · rw [if_neg h1]
   cases e:befE cost band i j with
   | none=>rw [if_pos (.inr (Int.le_refl _))]; rfl
   | some v =>
     have:=befE_small hc i j v e;rw [if_neg (fun h=>h.elim h1 (fun h=>by simp only [encO] at h; omega))]; rfl
end Go.Proofs.YtafgknkcjohjeaaGreatDoor
