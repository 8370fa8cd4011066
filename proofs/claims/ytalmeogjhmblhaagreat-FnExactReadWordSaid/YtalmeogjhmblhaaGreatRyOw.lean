/- Which hypothesis is before another one; a slice of a list's elements. Conditions: none. -/
import Derived.Test.YtalmeogjhmblhaaGreatRyAw
import Derived.Test.YtalmeogjhmblhaaGreatInkBw
import Derived.Shelf.Strconv.Itoa0
import Derived.Test.YtalmeogjhmblhaaGreatLibw
import Derived.Test.YtalmeogjhmblhaaGreatProg
import Derived.Test.YtalmeogjhmblhaaGreatStrSw
import Derived.Test.YtalmeogjhmblhaaGreatMarkw
import Derived.Deep.MidRow
import Derived.Deep.Cut
namespace Go.Proofs.YtalmeogjhmblhaaGreat
open Go Go.RowKit
set_option maxHeartbeats 8000000
set_option maxRecDepth 100000
theorem spec_l13Before_c (x y:HypZ) (w:World):Calls Tryz.prog 218 #[.agg #[.string x.label,.int .i64 x.cost],.agg #[.string y.label,.int .i64 y.cost]] w fun e w'=>e=.returned (.bool (hypLt x y))∧Below w.heap.size w w':=by
 obtain ⟨a,n⟩:=x;obtain ⟨b,m⟩:=y;have b2:Below w.heap.size w ((w.alloc (.cells #[.string a,.int .i64 n] 204)).alloc (.cells #[.string b,.int .i64 m] 204)):=((Below.refl _ _).alloc (Nat.le_refl _) _).alloc (by simp) _
 by_cases h1:n < m
 · have e1:decide (n < m)=true:=decide_eq_true h1
   have HE:=Lib.hid (show hypLt ⟨a,n⟩ ⟨b,m⟩=true by simp [hypLt,h1])
   go_enter Tryz.func218,Tryz.ntmps218
   go_wp2_with fail
   go_ret;exact ⟨by rw [HE.out]; rfl,b2⟩
 · have e1:decide (n < m)=false:=decide_eq_false h1
   by_cases h2:n=m
   · subst h2
     have e2:(n == n)=true:=by simp
     cases h3:bLess a b
     all_goals
      have HE:=Lib.hid (show hypLt ⟨a,n⟩ ⟨b,n⟩=bLess a b by simp [hypLt]);rw [h3] at HE;unfold bLess at h3
      go_enter Tryz.func218,Tryz.ntmps218
      go_wp2_with fail
      go_ret;exact ⟨by rw [HE.out]; rfl,b2⟩
   · have e2:(n == m)=false:=beq_false_of_ne h2
     have HE:=Lib.hid (show hypLt ⟨a,n⟩ ⟨b,m⟩=false by simp [hypLt,h1,h2])
     go_enter Tryz.func218,Tryz.ntmps218
     go_wp2_with fail
     go_ret;exact ⟨by rw [HE.out]; rfl,b2⟩
theorem row_dropN {w:World} {g k c sz:Nat} {e:TypeId} {cs rest:List Value} (h:Row w g e (cs++rest)) (hc:(cs++rest).length=c * sz) (hn:k * sz≤cs.length):∃ AD:Addr,(if c=k then (some ⟨g,0,none⟩:Option Addr) else some ⟨g,k * sz,none⟩)=some AD∧CellsAt w (some AD) (cs.drop (k * sz)):=by
 by_cases hcn:c=k
 · refine ⟨⟨g,0,none⟩,by rw [if_pos hcn],fun hp=>?_⟩
   rw [List.length_append] at hc;rw [List.length_drop] at hp;subst hcn; omega
 · refine ⟨⟨g,k * sz,none⟩,by rw [if_neg hcn],fun _=>⟨g,k * sz,rfl,fun j u hu=>h.cell' ?_⟩⟩
   have hj:=(List.getElem?_eq_some_iff.1 hu).1;rw [List.length_drop] at hj;rw [List.getElem?_append_left (by omega)]
   rwa [List.getElem?_drop] at hu
theorem cellsAt_later {w w':World} {A:Option Addr} {cs:List Value} (h:CellsAt w A cs) (hl:∀ a,A=some a→a.block < w.heap.size) (hb:Below w.heap.size w w'):CellsAt w' A cs:=fun h0=>by
 obtain ⟨b,off,rfl,hc⟩:=h h0;exact ⟨b,off,rfl,fun j u hu=>(hb.cell (p:=⟨b,off+j,none⟩) (hl ⟨b,off,none⟩ rfl)).trans (hc j u hu)⟩
section
variable {α:Type} {n:Nat} {enc:α→List Value} {ok:α→Prop} {h1:∀ a,(enc a).length=n} {h2:∀ a u,u∈enc a→u.oneCell'=true} {w:World} {e:TypeId}
theorem flatMap_take (h1:∀ a,(enc a).length=n):∀ (xs:List α) (k:Nat),(xs.flatMap enc).take (k * n)=(xs.take k).flatMap enc
 | [],k=>by simp
 | x :: xs,0=>by simp
 | x :: xs,k+1=>by
   rw [List.flatMap_cons,List.take_succ_cons,List.flatMap_cons,Nat.add_mul,Nat.one_mul,Nat.add_comm,List.take_append,List.take_of_length_le (by rw [h1]; omega),h1,Nat.add_sub_cancel_left,flatMap_take h1 xs k]
theorem flatMap_drop (h1:∀ a,(enc a).length=n):∀ (xs:List α) (k:Nat),(xs.flatMap enc).drop (k * n)=(xs.drop k).flatMap enc
 | [],k=>by simp
 | x :: xs,0=>by simp
 | x :: xs,k+1=>by
   rw [List.flatMap_cons,List.drop_succ_cons,Nat.add_mul,Nat.one_mul,Nat.add_comm,List.drop_append,h1,Nat.add_sub_cancel_left,List.drop_of_length_le (by rw [h1]; omega),List.nil_append,flatMap_drop h1 xs k]
theorem flat_parts {xs:List α} {v:Value} {F:List Nat} (h:((Ty.flat n enc ok h1 h2).slice e).rep true w xs [v] F) {k:Nat} (hk:k≤xs.length) :
 (v=.slice none 0 0∧xs=[])∨∃ g c AD,v=.slice (some ⟨g,0,none⟩) xs.length c∧xs.length≤c∧c≤maxLen∧F=[g]∧g < w.heap.size∧CellsAt w (some ⟨g,0,none⟩) ((xs.take k).flatMap enc)∧(if c=k then (some ⟨g,0,none⟩:Option Addr) else some ⟨g,k * n,none⟩)=some AD∧CellsAt w (some AD) ((xs.drop k).flatMap enc):=by
 rcases own_cases h with ⟨h3,h4⟩ | ⟨g,c,cs,rest,G,h3,h4,h5,h6,h7,h8,h9⟩
 · exact .inl ⟨h3,h4⟩
 · obtain ⟨rfl,rfl,-⟩:=flat_repL_inv h7
   have hl:(xs.flatMap enc).length=xs.length * n:=by
    have:=repL_len (T:=Ty.flat n enc ok h1 h2) h7;exact this
   obtain ⟨AD,h10,h11⟩:=row_dropN (k:=k) (sz:=n) h6 h8 (by rw [hl]; exact Nat.mul_le_mul_right n hk);have ht:=row_take h6 (k * n);rw [flatMap_take h1] at ht;rw [flatMap_drop h1] at h11;exact .inr ⟨g,c,AD,h3,h4,h5,h9,h6.lt,ht,h10,h11⟩
end
theorem tdiv_small {n d m:Int} (h:-m≤n∧n≤m):-m≤n.tdiv d∧n.tdiv d≤m:=by
 have:=Int.natAbs_tdiv_le_natAbs n d;omega
theorem tmod_small {n d:Int} (hd:0 < d):-d < n.tmod d∧n.tmod d < d:=⟨Int.lt_tmod_of_pos n hd,Int.tmod_lt_of_pos n hd⟩
theorem ediv_small {n d:Int} (hd:0 < d) (h:-1152921504606846976≤n∧n≤1152921504606846976):-1152921504606846977≤n / d∧n / d≤1152921504606846976:=by
 have h1:=Int.emod_nonneg n (show d≠0 by omega);have h2:=Int.emod_lt_of_pos n hd;have h3:=Int.mul_ediv_add_emod n d;constructor
 · have:=Int.ediv_le_ediv hd (show n≥-1152921504606846976 from h.1)
   have q:-1152921504606846976≤(-1152921504606846976:Int) / d:=by
    exact Int.le_ediv_of_mul_le hd (by have:1≤d:=hd; omega)
   omega
 · rcases Int.le_total 0 n with h0 | h0
   · have:=Int.ediv_le_self d h0; omega
   · have:=Int.ediv_nonpos_of_nonpos_of_neg h0 hd; omega
theorem impl_floorDiv_c (n d:Int) (w:World) (hd:0 < d) (hn:-4611686018427387904≤n∧n≤4611686018427387904) (hd2:d≤4611686018427387904) :
 Calls Tryz.prog 338 #[.int .i64 n,.int .i64 d] w fun e w'=>e=.returned (.int .i64 (n / d))∧w'=w:=by
 have hq:=floor_div (n:=n) hd;have h1:=tdiv_small (d:=d) hn;have h2:=tmod_small (n:=n) hd;have nz:(d == 0)=false:=by simp; omega
 have nz2:¬ d=0:=by omega
 have k1:=IntWalk.i64_in (n.tdiv d) (by omega);have k2:=IntWalk.i64_in (n.tmod d) (by omega);have k3:=IntWalk.i64_in (n.tdiv d - 1) (by omega)
 by_cases hlt:n.tmod d < 0
 · rw [if_pos hlt] at hq
   rw [← hq];clear hq
   go_enter Tryz.func338,Tryz.ntmps338
   go_wp2_with fail
   go_ret;exact ⟨rfl,rfl⟩
 · rw [if_neg hlt] at hq
   rw [← hq];clear hq
   go_enter Tryz.func338,Tryz.ntmps338
   go_wp2_with fail
   go_ret;exact ⟨rfl,rfl⟩
theorem spec_l05Down_c (n d:Int) (w:World) (hd:0 < d) (hn:-4611686018427387904≤n∧n≤4611686018427387904) (hd2:d≤4611686018427387904) :
 Calls Tryz.prog 333 #[.int .i64 n,.int .i64 d] w fun e w'=>e=.returned (.int .i64 (n / d))∧w'=w:=by
 have hq:=floor_div (n:=n) hd;have h1:=tdiv_small (d:=d) hn;have h2:=tmod_small (n:=n) hd;have nz:(d == 0)=false:=by simp; omega
 have nz2:¬ d=0:=by omega
 have k1:=IntWalk.i64_in (n.tdiv d) (by omega);have k2:=IntWalk.i64_in (n.tmod d) (by omega);have k3:=IntWalk.i64_in (n.tdiv d - 1) (by omega)
 by_cases hlt:n.tmod d < 0
 · rw [if_pos hlt] at hq
   rw [← hq];clear hq
   go_enter Tryz.func333,Tryz.ntmps333
   go_wp2_with fail
   go_ret;exact ⟨rfl,rfl⟩
 · rw [if_neg hlt] at hq
   rw [← hq];clear hq
   go_enter Tryz.func333,Tryz.ntmps333
   go_wp2_with fail
   go_ret;exact ⟨rfl,rfl⟩
theorem spec_l05Near_c (n d:Int) (w:World) (hd:0 < d) (hn:-1152921504606846976≤n∧n≤1152921504606846976) (hd2:d≤1152921504606846976) :
 Calls Tryz.prog 307 #[.int .i64 n,.int .i64 d] w fun e w'=>e=.returned (.int .i64 (nearZ n d))∧w'=w:=by
 have C:=Lib.hid (spec_l05Down_c (2 * n+d) (2 * d) w (by omega) (by omega) (by omega));have k1:=IntWalk.i64_in (2 * n) (by omega);have k2:=IntWalk.i64_in (2 * n+d) (by omega);have k3:=IntWalk.i64_in (2 * d) (by omega)
 go_enter Tryz.func307,Tryz.ntmps307
 go_wp2_with fail
 refine C.out.mono ?_;rintro e w1 ⟨rfl,rfl⟩
 go_wp2_with fail
 go_ret;exact ⟨rfl,rfl⟩
theorem impl_nearestDiv_c (n d:Int) (w:World) (hd:0 < d) (hn:-1152921504606846976≤n∧n≤1152921504606846976) (hd2:d≤1152921504606846976) :
 Calls Tryz.prog 315 #[.int .i64 n,.int .i64 d] w fun e w'=>e=.returned (.int .i64 (nearZ n d))∧w'=w:=by
 have C:=Lib.hid (impl_floorDiv_c n d w hd (by omega) (by omega));have hq:=near_rest (n:=n) hd;have h1:=Int.emod_nonneg n (show d≠0 by omega);have h2:=Int.emod_lt_of_pos n hd;have h3:=Int.mul_ediv_add_emod n d;have h4:n - n / d * d=n % d:=by rw [Int.mul_comm]; omega
 have h5:n / d * d=n - n % d:=by omega
 have h6:=ediv_small hd hn;have k1:=IntWalk.i64_in (n / d * d) (by omega);have k2:=IntWalk.i64_in (n - n / d * d) (by omega);have k3:=IntWalk.i64_in (d - (n - n / d * d)) (by omega);have k4:=IntWalk.i64_in (n / d+1) (by omega)
 by_cases hlt:d - (n - n / d * d)≤n - n / d * d
 · rw [if_pos hlt] at hq
   rw [← hq];clear hq h1 h2 h3 h4 h5 h6
   go_enter Tryz.func315,Tryz.ntmps315
   go_wp2_with fail
   refine C.out.mono ?_;rintro e w1 ⟨rfl,rfl⟩
   go_wp2_with fail
   go_ret;exact ⟨rfl,rfl⟩
 · rw [if_neg hlt] at hq
   rw [← hq];clear hq h1 h2 h3 h4 h5 h6
   go_enter Tryz.func315,Tryz.ntmps315
   go_wp2_with fail
   refine C.out.mono ?_;rintro e w1 ⟨rfl,rfl⟩
   go_wp2_with fail
   go_ret;exact ⟨rfl,rfl⟩
end Go.Proofs.YtalmeogjhmblhaaGreat
namespace Go.Proofs.YtalmeogjhmblhaaGreat
open Go Go.Shelf Go.RowKit
set_option maxHeartbeats 8000000
set_option maxRecDepth 100000
def lays129_ren:Go.Shelf.Ren:=⟨fun | 129=>245 | n=>n,fun | 53=>337 | 3=>3 | 4=>4 | 46=>293 | 5=>5 | 9=>9 | n=>n,fun | n=>n⟩
theorem lays129:Go.Proofs.Lays.n129 Tryz.prog lays129_ren:={
 mixed:=by kernel_rfl
 f129:=Tryz.func245.trans (congrArg some (by kernel_rfl))
 t3:=Tryz.underlying3
 a3:=Tryz.isAgg3
 z3:=Tryz.sizeOf3
 v3:=Tryz.zeroValue3
 t4:=Tryz.underlying4
 a4:=Tryz.isAgg4
 z4:=Tryz.sizeOf4
 v4:=Tryz.zeroValue4
 t5:=Tryz.underlying5
 a5:=Tryz.isAgg5
 z5:=Tryz.sizeOf5
 v5:=Tryz.zeroValue5
 t9:=Tryz.underlying9
 a9:=Tryz.isAgg9
 z9:=Tryz.sizeOf9
 v9:=Tryz.zeroValue9
 t46:=Tryz.underlying293
 a46:=Tryz.isAgg293
 z46:=Tryz.sizeOf293
 v46:=Tryz.zeroValue293
 t53:=Tryz.underlying337
 a53:=Tryz.isAgg337
 z53:=Tryz.sizeOf337
 v53:=Tryz.zeroValue337 }
theorem Tryz.bits_Len64 (x:Int) (w:World) (h0:0≤x) (h1:x≤18446744073709551615) :
 Calls Tryz.prog 245 #[.int .u64 x] w fun e w'=>e=.returned (.int .i64 (Lib.bitLen x.toNat))∧w'=w:=Any.bits_Len64 lays129 x w h0 h1
theorem bitLen_lt:∀ (k x:Nat),x < 2 ^ k→k≤64→x < 2 ^ Lib.bitLen x∧Lib.bitLen x≤k
 | 0,x,h,_=>by
   obtain rfl:x=0:=by simpa using h
   exact ⟨by decide,by decide⟩
 | k+1,x,h,hk=>by
   by_cases h0:x=0
   · subst h0; exact ⟨by decide,(by have:Lib.bitLen 0=0:=(by decide); omega)⟩
   · have h64:x < 2 ^ 64:=Nat.lt_of_lt_of_le h (Nat.pow_le_pow_right (by decide) hk)
     have e:=Lib.bitLen_half x h0 h64;have hx2:x / 2 < 2 ^ k:=by rw [Nat.pow_succ] at h; omega
     obtain ⟨a,b⟩:=bitLen_lt k (x / 2) hx2 (by omega);rw [e];refine ⟨?_,by omega⟩;rw [Nat.add_comm,Nat.pow_succ]; omega
theorem start_root {n:Nat} (h:n < 2 ^ 34):rootN n≤2 ^ ((Lib.bitLen n+1) / 2)∧(Lib.bitLen n+1) / 2≤17:=by
 obtain ⟨a,b⟩:=bitLen_lt 34 n h (by decide);refine ⟨?_,by omega⟩;have h1:2 ^ Lib.bitLen n≤2 ^ ((Lib.bitLen n+1) / 2+(Lib.bitLen n+1) / 2):=Nat.pow_le_pow_right (by decide) (by omega);rw [Nat.pow_add] at h1;refine rootN_le (Nat.lt_of_lt_of_le a (Nat.le_trans h1 ?_));exact Nat.mul_le_mul (by omega) (by omega)
theorem w64in {x:Int} (h:-9223372036854775808≤x∧x≤9223372036854775807):wrap64 x=x:=by unfold wrap64; omega
def stepZ (n r:Int):Int:=(r+n / r) / 2
theorem stepZ_nat (n r:Nat):stepZ n r=(((r+n / r) / 2:Nat):Int):=by unfold stepZ; omega
structure Newt (n r:Int):Prop where
 pos:0 < r
 ge:((rootN n.toNat:Nat):Int)≤r
 le:r≤131072
 quo:0≤n / r∧n / r≤8585740800
theorem Newt.of {n:Int} {r:Nat} (h0:0≤n) (hn:n≤8585740800) (hr:0 < r) (h:rootN n.toNat≤r) (hl:r≤131072):Newt n r :=
 ⟨by omega,by omega,by omega,⟨Int.ediv_nonneg h0 (by omega),Int.le_trans (Int.ediv_le_self _ h0) hn⟩⟩
theorem Newt.next {n r:Int} (h0:0 < n) (hn:n≤8585740800) (h:Newt n r) (hlt:stepZ n r < r):Newt n (stepZ n r):=by
 obtain ⟨m,rfl⟩:=Int.eq_ofNat_of_zero_le (show 0≤n by omega);obtain ⟨k,rfl⟩:=Int.eq_ofNat_of_zero_le (show 0≤r by have:=h.pos; omega);have hp:=h.pos;have hl:=h.le;rw [stepZ_nat] at *;have hge:=newton_ge (r:=k) (n:=m) (by omega)
 have hr1:0 < rootN m:=by
  have:=rootN_is m;rcases Nat.eq_zero_or_pos (rootN m) with h | h
  · have h2:=this.2; rw [h] at h2; omega
  · exact h
 exact Newt.of (by omega) hn (by omega) (by rw [Int.toNat_natCast]; exact hge) (by omega)
theorem Newt.done {n r:Int} (h0:0 < n) (h:Newt n r) (hge:¬ stepZ n r < r):r=((rootN n.toNat:Nat):Int):=by
 obtain ⟨m,rfl⟩:=Int.eq_ofNat_of_zero_le (show 0≤n by omega);obtain ⟨k,rfl⟩:=Int.eq_ofNat_of_zero_le (show 0≤r by have:=h.pos; omega);have hp:=h.pos;have hg:=h.ge;rw [stepZ_nat] at hge;rw [Int.toNat_natCast] at *;have:=newton_done (r:=k) (n:=m) (by omega) (by omega) (by omega);omega
structure NewtW (n r:Int):Prop where
 a:IntKind.i64.wrap (n / r)=n / r
 b:IntKind.i64.wrap (r+n / r)=r+n / r
 c:IntKind.i64.wrap ((r+n / r) / 2)=stepZ n r
 d:n.tdiv r=n / r
 e:(r+n / r).tdiv 2=(r+n / r) / 2
 f:(r == 0)=false
 g:r≠0
theorem Newt.walk {n r:Int} (h0:0≤n) (h:Newt n r):NewtW n r:=by
 have hp:=h.pos;have hl:=h.le;have hq:=h.quo;exact ⟨IntWalk.i64_in _ (by omega),IntWalk.i64_in _ (by omega),IntWalk.i64_in _ (by omega),Int.tdiv_eq_ediv_of_nonneg h0,Int.tdiv_eq_ediv_of_nonneg (by omega),by simp; omega,by omega⟩
theorem impl_rootOf_c (n:Int) (w:World) (hn0:0≤n) (hn:n≤8585740800) :
 Calls Tryz.prog 350 #[.int .i64 n] w fun e w'=>e=.returned (.int .i64 (rootN n.toNat:Nat))∧w'=w:=by
 by_cases h0:n=0
 · subst h0
   go_enter Tryz.func350,Tryz.ntmps350
   go_wp2_with fail
   go_ret;exact ⟨rfl,rfl⟩
 · obtain ⟨s1,s2⟩:=start_root (n:=n.toNat) (by omega)
   have g0:(n == 0)=false:=by simpa using h0
   have C:=Lib.hid (Tryz.bits_Len64 n w (by omega) (by omega));have ku:IntKind.u64.wrap n=n:=by rw [IntKind.wrap_u64]; omega
   generalize hL:Lib.bitLen n.toNat=L at C s1 s2;have kl:=IntWalk.i64_in ((L:Int)+1) (by omega);have hP1:0 < 2 ^ ((L+1) / 2):=Nat.two_pow_pos _;have hP2:2 ^ ((L+1) / 2)≤2 ^ 17:=Nat.pow_le_pow_right (by decide) s2;have hN:Newt n ((2 ^ ((L+1) / 2):Nat):Int):=Newt.of hn0 hn hP1 s1 (by omega)
   have kp:wrap64 ((2:Int) ^ ((L+1) / 2))=((2 ^ ((L+1) / 2):Nat):Int):=by
    have e:(2:Int) ^ ((L+1) / 2)=((2 ^ ((L+1) / 2):Nat):Int):=by rw [Int.natCast_pow]; rfl
    rw [e]; exact w64in (by omega)
   generalize ((2 ^ ((L+1) / 2):Nat):Int)=P at hN kp;obtain ⟨k1,k2,k3,k4,k5,k6,k7⟩:=hN.walk hn0;have HN:=Lib.hid hN;have hn1:0 < n:=by omega
   clear hL h0 hP1 hP2 s1 hN
   go_enter Tryz.func350,Tryz.ntmps350
   go_wp2_with fail
   refine C.out.mono ?_;rintro e w1 ⟨rfl,rfl⟩
   go_wp2_with fail
   go_loopw [3,4] (fun a b wr=>∃ r:Int,a=.int .i64 r∧b=.int .i64 (stepZ n r)∧Hid (Newt n r)∧wr=w1) (fun a _ _=>(intOf a).toNat)
   case atStart=>exact ⟨P,by first | rfl | rw [kp],by first | rfl | simp only [kp,k1,k2,k3],HN,rfl⟩
   case round =>
    obtain ⟨r,rfl,rfl,HR,rfl⟩:=hrel;clear k1 k2 k3 k4 k5 k6 k7
    by_cases hlt:stepZ n r < r
    · have hX:=HR.out.next hn1 hn hlt
      have hpos:=HR.out.pos;obtain ⟨k1,k2,k3,k4,k5,k6,k7⟩:=hX.walk hn0;have HX:=Lib.hid hX;have HE:=Lib.hid (rfl:stepZ n r=stepZ n r);have hp2:=hX.pos;clear hX;generalize hx:stepZ n r=x at *;clear hx
      go_wp2_with fail
      go_roundw
      case rel=>exact ⟨x,rfl,rfl,HX,by first | rfl | trivial⟩
      case measure=>simp [intOf]; omega
    · have hd:=HR.out.done hn1 hlt
      have hd2:=Lib.hid hd;clear hd
      go_wp2_with fail
      go_ret;exact ⟨by rw [← hd2.out] <;> rfl,rfl⟩
theorem root_iff {m n:Nat}:m * m≤n↔m≤rootN n:=by
 have h:=rootN_is n;constructor
 · intro hm
   rcases Nat.lt_or_ge (rootN n) m with h1 | h1
   · have:(rootN n+1) * (rootN n+1)≤m * m:=Nat.mul_le_mul (by omega) (by omega)
     have:=h.2; omega
   · exact h1
 · intro hm
   exact Nat.le_trans (Nat.mul_le_mul hm hm) h.1
theorem root_iffZ {m n:Int} (hm:0≤m) (hn:0≤n):m * m≤n↔m≤((rootN n.toNat:Nat):Int):=by
 obtain ⟨k,rfl⟩:=Int.eq_ofNat_of_zero_le hm;obtain ⟨j,rfl⟩:=Int.eq_ofNat_of_zero_le hn;rw [Int.toNat_natCast];have:=root_iff (m:=k) (n:=j);constructor
 · intro h
   have h2:k * k≤j:=by exact_mod_cast h
   have:=this.1 h2; omega
 · intro h
   have h2:k≤rootN j:=by omega
   exact_mod_cast this.2 h2
theorem spec_l05Root_c (n:Int) (w:World) (hn0:0≤n) (hn:n≤8585740800) :
 Calls Tryz.prog 344 #[.int .i64 n] w fun e w'=>e=.returned (.int .i64 (rootN n.toNat:Nat))∧w'=w:=by
 have hR0:((rootN n.toNat:Nat):Int)≤40000000:=by
  have:=rootN_le (n:=n.toNat) (b:=40000000) (by omega); omega
 generalize hR:((rootN n.toNat:Nat):Int)=R at hR0 ⊢;have hR1:0≤R:=by omega
 have HI:=Lib.hid (fun m (hm:0≤m)=>(root_iffZ hm hn0).trans (by rw [hR]));clear hR
 go_enter Tryz.func344,Tryz.ntmps344
 go_wp2_with fail
 go_loopw [3,4] (fun a b wr=>∃ lo hi:Int,a=.int .i64 lo∧b=.int .i64 hi∧0≤lo∧lo≤R∧R≤hi∧hi≤40000000∧wr=w) (fun a b _=>(intOf b - intOf a).toNat)
 case atStart=>exact ⟨0,40000000,rfl,rfl,by omega,hR1,hR0,by omega,rfl⟩
 case round =>
  obtain ⟨lo,hi,rfl,rfl,h0,h1,h2,h3,rfl⟩:=hrel
  by_cases hlt:lo < hi
  · have k1:=IntWalk.i64_in (lo+hi) (by omega)
    have k2:=IntWalk.i64_in (lo+hi+1) (by omega);have k3:(lo+hi+1).tdiv 2=(lo+hi+1) / 2:=Int.tdiv_eq_ediv_of_nonneg (by omega);have k4:=IntWalk.i64_in ((lo+hi+1) / 2) (by omega);obtain ⟨m,hm⟩:∃ m,(lo+hi+1) / 2=m:=⟨_,rfl⟩
    have hm1:lo < m∧m≤hi:=by omega
    rw [hm] at k3 k4;have hmm:=HI.out m (by omega)
    have hmx:0≤m * m∧m * m≤1600000000000000:=by
     constructor
     · exact Int.mul_nonneg (by omega) (by omega)
     · exact Int.le_trans (Int.mul_le_mul (show m≤40000000 by omega) (show m≤40000000 by omega) (by omega) (by omega)) (by omega)
    have k5:=IntWalk.i64_in (m * m) (by omega);have k6:=IntWalk.i64_in (m - 1) (by omega)
    by_cases hle:m * m≤n
    · have hmr:=hmm.1 hle
      clear hmm hmx;have HM:=Lib.hid hm;clear hm
      go_wp2_with fail
      go_roundw
      case rel=>exact ⟨m,hi,rfl,rfl,by omega,by omega,by omega,by omega,by first | rfl | trivial⟩
      case measure=>simp [intOf]; omega
    · have hmr:¬ m≤R:=fun h=>hle (hmm.2 h)
      clear hmm hmx;have HM:=Lib.hid hm;clear hm
      go_wp2_with fail
      go_roundw
      case rel=>exact ⟨lo,m - 1,rfl,by go_num,by omega,by omega,by omega,by omega,by first | rfl | trivial⟩
      case measure=>simp [intOf]; omega
  · obtain rfl:lo=R:=by omega
    go_wp2_with fail
    go_ret;exact ⟨rfl,rfl⟩
theorem impl_squared_c (a b:PPoint) (w:World) (ha:pointB a=true) (hb:pointB b=true) :
 Calls Tryz.prog 351 #[.agg #[.int .i64 a.x,.int .i64 a.y,.int .i64 a.t],.agg #[.int .i64 b.x,.int .i64 b.y,.int .i64 b.t]] w fun e w'=>e=.returned (.int .i64 (farZ a b))∧Below w.heap.size w w':=by
 obtain ⟨a1,a2,a3,a4,a5,a6⟩:=pointB_in ha;obtain ⟨b1,b2,b3,b4,b5,b6⟩:=pointB_in hb;have k1:=IntWalk.i64_in (a.x - b.x) (by omega);have k2:=IntWalk.i64_in (a.y - b.y) (by omega);have s1:=sq_small (x:=a.x - b.x) (by omega) (by omega);have s2:=sq_small (x:=a.y - b.y) (by omega) (by omega);have k3:=IntWalk.i64_in ((a.x - b.x) * (a.x - b.x)) (by omega);have k4:=IntWalk.i64_in ((a.y - b.y) * (a.y - b.y)) (by omega);have k5:=IntWalk.i64_in ((a.x - b.x) * (a.x - b.x)+(a.y - b.y) * (a.y - b.y)) (by omega);have bb:Below w.heap.size w ((w.alloc (.cells #[.int .i64 a.x,.int .i64 a.y,.int .i64 a.t] 128)).alloc (.cells #[.int .i64 b.x,.int .i64 b.y,.int .i64 b.t] 128)):=((Below.refl _ _).alloc (Nat.le_refl _) _).alloc (by simp) _;clear a1 a2 a3 a4 a5 a6 b1 b2 b3 b4 b5 b6 s1 s2
 go_enter Tryz.func351,Tryz.ntmps351
 go_wp2_with fail
 go_ret;exact ⟨rfl,bb⟩
theorem spec_l05Far_c (a b:PPoint) (w:World) (ha:pointB a=true) (hb:pointB b=true) :
 Calls Tryz.prog 345 #[.agg #[.int .i64 a.x,.int .i64 a.y,.int .i64 a.t],.agg #[.int .i64 b.x,.int .i64 b.y,.int .i64 b.t]] w fun e w'=>e=.returned (.int .i64 (farZ a b))∧Below w.heap.size w w':=by
 obtain ⟨a1,a2,a3,a4,a5,a6⟩:=pointB_in ha;obtain ⟨b1,b2,b3,b4,b5,b6⟩:=pointB_in hb;have k1:=IntWalk.i64_in (a.x - b.x) (by omega);have k2:=IntWalk.i64_in (a.y - b.y) (by omega);have s1:=sq_small (x:=a.x - b.x) (by omega) (by omega);have s2:=sq_small (x:=a.y - b.y) (by omega) (by omega);have k3:=IntWalk.i64_in ((a.x - b.x) * (a.x - b.x)) (by omega);have k4:=IntWalk.i64_in ((a.y - b.y) * (a.y - b.y)) (by omega);have k5:=IntWalk.i64_in ((a.x - b.x) * (a.x - b.x)+(a.y - b.y) * (a.y - b.y)) (by omega);have bb:Below w.heap.size w ((w.alloc (.cells #[.int .i64 a.x,.int .i64 a.y,.int .i64 a.t] 128)).alloc (.cells #[.int .i64 b.x,.int .i64 b.y,.int .i64 b.t] 128)):=((Below.refl _ _).alloc (Nat.le_refl _) _).alloc (by simp) _;clear a1 a2 a3 a4 a5 a6 b1 b2 b3 b4 b5 b6 s1 s2
 go_enter Tryz.func345,Tryz.ntmps345
 go_wp2_with fail
 go_ret;exact ⟨rfl,bb⟩
theorem impl_lengthOf_c (a b:PPoint) (w:World) (ha:pointB a=true) (hb:pointB b=true) :
 Calls Tryz.prog 336 #[.agg #[.int .i64 a.x,.int .i64 a.y,.int .i64 a.t],.agg #[.int .i64 b.x,.int .i64 b.y,.int .i64 b.t]] w fun e w'=>e=.returned (.int .i64 (lenZ a b))∧Below w.heap.size w w':=by
 have bb:Below w.heap.size w ((w.alloc (.cells #[.int .i64 a.x,.int .i64 a.y,.int .i64 a.t] 128)).alloc (.cells #[.int .i64 b.x,.int .i64 b.y,.int .i64 b.t] 128)):=((Below.refl _ _).alloc (Nat.le_refl _) _).alloc (by simp) _;have CF:=Lib.hid (impl_squared_c a b ((w.alloc (.cells #[.int .i64 a.x,.int .i64 a.y,.int .i64 a.t] 128)).alloc (.cells #[.int .i64 b.x,.int .i64 b.y,.int .i64 b.t] 128)) ha hb);have hf:=farZ_small ha hb;have k1:=IntWalk.i64_in (256 * farZ a b) (by omega);have CR:=Lib.hid (fun w=>impl_rootOf_c (256 * farZ a b) w (by omega) (by omega));have hl:lenZ a b=((rootN (256 * farZ a b).toNat:Nat):Int):=rfl;rw [hl];generalize farZ a b=f at *;clear hl hf ha hb
 go_enter Tryz.func336,Tryz.ntmps336
 go_wp2_with fail
 refine CF.out.mono ?_;rintro e w1 ⟨rfl,b1⟩;replace bb:=bb.trans (b1.mono bb.size)
 go_wp2_with fail
 refine (CR.out _).mono ?_;rintro e w2 ⟨rfl,rfl⟩
 go_wp2_with fail
 go_ret;exact ⟨rfl,bb⟩
theorem spec_l05Length_c (a b:PPoint) (w:World) (ha:pointB a=true) (hb:pointB b=true) :
 Calls Tryz.prog 331 #[.agg #[.int .i64 a.x,.int .i64 a.y,.int .i64 a.t],.agg #[.int .i64 b.x,.int .i64 b.y,.int .i64 b.t]] w fun e w'=>e=.returned (.int .i64 (lenZ a b))∧Below w.heap.size w w':=by
 have bb:Below w.heap.size w ((w.alloc (.cells #[.int .i64 a.x,.int .i64 a.y,.int .i64 a.t] 128)).alloc (.cells #[.int .i64 b.x,.int .i64 b.y,.int .i64 b.t] 128)):=((Below.refl _ _).alloc (Nat.le_refl _) _).alloc (by simp) _;have CF:=Lib.hid (spec_l05Far_c a b ((w.alloc (.cells #[.int .i64 a.x,.int .i64 a.y,.int .i64 a.t] 128)).alloc (.cells #[.int .i64 b.x,.int .i64 b.y,.int .i64 b.t] 128)) ha hb);have hf:=farZ_small ha hb;have k1:=IntWalk.i64_in (256 * farZ a b) (by omega);have CR:=Lib.hid (fun w=>spec_l05Root_c (256 * farZ a b) w (by omega) (by omega));have hl:lenZ a b=((rootN (256 * farZ a b).toNat:Nat):Int):=rfl;rw [hl];generalize farZ a b=f at *;clear hl hf ha hb
 go_enter Tryz.func331,Tryz.ntmps331
 go_wp2_with fail
 refine CF.out.mono ?_;rintro e w1 ⟨rfl,b1⟩;replace bb:=bb.trans (b1.mono bb.size)
 go_wp2_with fail
 refine (CR.out _).mono ?_;rintro e w2 ⟨rfl,rfl⟩
 go_wp2_with fail
 go_ret;exact ⟨rfl,bb⟩
def nums (e:TypeId):Ty (List Int):=int64.slice e
theorem nums_open {o:Bool} {w:World} {e:TypeId} {xs:List Int} {v:Value} {F:List Nat} (h:(nums e).rep o w xs [v] F) :
 ∃ A c,v=.slice A xs.length c∧xs.length≤c∧c≤maxLen∧∀ k (hk:k < xs.length),∃ b off,A=some ⟨b,off,none⟩∧b < w.heap.size∧b∈F∧w.cell? ⟨b,off+k,none⟩=some (.int .i64 xs[k])∧I64 xs[k]:=by
 obtain ⟨A,c,hv,h1,h2,h3⟩:=slice_open h;refine ⟨A,c,hv,h1,h2,fun k hk=>?_⟩;obtain ⟨b,off,ck,Fk,hA,hb,hin,hr,_,hc⟩:=h3 k hk;obtain ⟨rfl,rfl,i1⟩:=int64_rep.1 hr;have h0:=hc 0 _ rfl;rw [show k * int64.size+0=k from Nat.mul_one k] at h0;exact ⟨b,off,hA,hb,hin,h0,i1⟩
theorem repL_nums {o:Bool} {w:World}:∀ (xs:List Int),(∀ s∈xs,I64 s)→repL int64 o w xs (xs.map (.int .i64)) []
 | [],_=>⟨rfl,rfl⟩
 | s :: r,h=>⟨[.int .i64 s],_,[],[],rfl,rfl,int64_rep.2 ⟨rfl,rfl,h s (by simp)⟩,repL_nums r (fun t ht=>h t (by simp [ht]))⟩
section
variable {w:World} {g:Nat} {e:TypeId} {cs:List Value}
theorem Row.range (R:Row w g e cs):w.rangeAt g 0 cs:=fun j v hv=>by rw [Nat.zero_add]; exact R.cell' hv
theorem Row.there (R:Row w g e cs):w.there g 0 cs.length:=fun j hj=>by
 obtain ⟨⟨u,hu⟩,hf⟩:=R.can (i:=j) hj;rw [Nat.zero_add];exact ⟨by rw [hu]; rfl,hf⟩
theorem Row.setCells_at:∀ (vs cs pre:List Value) (w:World),vs.length=cs.length→Row w g e (pre++cs)→Row (w.setCells g pre.length vs) g e (pre++vs)
 | [],[],pre,w,_,R=>R
 | [],_ :: _,_,_,h,_=>by simp at h
 | _ :: _,[],_,_,h,_=>by simp at h
 | v :: r,c :: cs,pre,w,h,R=>by
   have R1:=R.set pre.length v;have e1:(pre++c :: cs).set pre.length v=(pre++[v])++cs:=by rw [List.set_append_right _ _ (Nat.le_refl _),Nat.sub_self]; simp
   rw [e1] at R1;have R2:=Row.setCells_at r cs (pre++[v]) _ (by simpa using h) R1;rw [List.length_append,List.length_singleton,List.append_assoc] at R2;exact R2
theorem Row.setCells (R:Row w g e cs) {vs:List Value} (h:vs.length=cs.length):Row (w.setCells g 0 vs) g e vs:=Row.setCells_at vs cs [] w h R
end
theorem Only.setCells {F:List Nat} {a:World} {b:Nat} (hb:b∈F):∀ (vs:List Value) (o:Nat) (w:World),Only F a w→Only F a (w.setCells b o vs)
 | [],_,_,h=>h
 | v :: r,o,_w,h=>Only.setCells hb r (o+1) _ (h.set (p:=⟨b,o,none⟩) hb v)
end Go.Proofs.YtalmeogjhmblhaaGreat
