/-
  Texts of a proof, one behind another: Num, NumB, Dw3, Dw4, Dw5, Flt, FltD, Dw6, Dw7, Dw8, Z, Dw9, Dw10, Dw11, Dw12, Dw13, Dw16, Dw18, Dw21, Dw23, Dw24, Hl1, Dw40, Dw42, Dw43, Rw1, So0, So1, Cp1, Cp2, Dw44, Dw14, Dw15, Cn, CnO, Dw22, Dw17, Dw28.
-/
import Derived.Laws.FloatArith
import Derived.Shelf.GgSortFunc.InsertionK
import Derived.Shelf.SlSortCmp.NoneTotal
import Derived.Lib.SlicesCompact
import Derived.Shelf.RegionOpenPlain
import Derived.WalkKit
import Derived.Deep.LoopGhost
import Derived.Deep.Draws
import Derived.Lib.Walk
import Derived.Sort.WalkB12
import Derived.Lib.SliceRun
import Derived.Test.YtaflkgjckmfkoaaGreatKT2
set_option linter.all false
namespace Go.Proofs.YtaflkgjckmfkoaaGreat.DW
open Go.RowKit
def pw (k:Nat):Nat:=1000000000 ^ k
theorem pw_zero:pw 0=1:=rfl
theorem pw_one:pw 1=1000000000:=rfl
theorem pw_succ (k:Nat):pw (k+1)=1000000000 * pw k:=by rw [pw,Nat.pow_succ,Nat.mul_comm]; rfl
theorem pw_pos (k:Nat):0 < pw k:=Nat.pow_pos (by decide)
theorem pw_add (j k:Nat):pw (j+k)=pw j * pw k:=Nat.pow_add ..
theorem pw_le {j k:Nat} (h:j<=k):pw j<=pw k:=Nat.pow_le_pow_right (by decide) h
theorem pw_lt {j k:Nat} (h:j < k):pw j < pw k:=Nat.pow_lt_pow_right (by decide) h
theorem pw_lt_iff {j k:Nat}:pw j < pw k ↔ j < k:=⟨fun h=>by
 rcases Nat.lt_or_ge j k with h1|h1
 ·exact h1
 ·have:=pw_le h1; omega,pw_lt⟩
def dg (n i:Nat):Nat:=n / pw i % 1000000000
theorem dg_lt (n i:Nat):dg n i < 1000000000:=Nat.mod_lt _ (by decide)
theorem dg_zero (n:Nat):dg n 0=n % 1000000000:=by rw [dg,pw_zero,Nat.div_one]
theorem dg_succ (n i:Nat):dg n (i+1)=dg (n / 1000000000) i:=by rw [dg,dg,pw_succ,Nat.div_div_eq_div_mul]
theorem dg_of_lt {n i:Nat} (h:n < pw i):dg n i=0:=by rw [dg,Nat.div_eq_of_lt h]
theorem mod_pw_succ (n i:Nat):n % pw (i+1)=n % pw i+pw i * dg n i:=by
 rw [pw_succ,Nat.mul_comm,Nat.mod_mul]; rfl
theorem div_pw_succ (n i:Nat):n / pw i=1000000000 * (n / pw (i+1))+dg n i:=by
 rw [pw_succ,Nat.mul_comm 1000000000 (pw i),<-Nat.div_div_eq_div_mul]
 have:=Nat.div_add_mod (n / pw i) 1000000000
 unfold dg; omega
theorem dg_top {n i:Nat} (h:n < pw (i+1)):dg n i=n / pw i:=by
 have:=div_pw_succ n i
 rw [Nat.div_eq_of_lt h] at this
 omega
def nl (n:Nat):Nat:=(natL n).length
theorem nl_zero:nl 0=0:=by rw [nl,natL_zero]; rfl
theorem nl_pos {n:Nat} (h:0 < n):nl n=nl (n / 1000000000)+1:=by rw [nl,natL_pos h]; rfl
theorem lt_nl:∀ n:Nat,n < pw (nl n):=by
 intro n
 induction n using Nat.strongRecOn with
 | _ n ih =>
  by_cases h:n=0
  ·subst h; rw [nl_zero]; decide
  ·rw [nl_pos (by omega),pw_succ]
   have:=ih (n / 1000000000) (by omega)
   omega
theorem nl_le:∀ n:Nat,n ≠ 0->0 < nl n/\pw (nl n - 1)<=n:=by
 intro n
 induction n using Nat.strongRecOn with
 | _ n ih =>
  intro h
  rw [nl_pos (by omega),Nat.add_sub_cancel]
  refine ⟨by omega,?_⟩
  by_cases h1:n / 1000000000=0
  ·rw [h1,nl_zero,pw_zero]; omega
  ·obtain ⟨h2,h3⟩:=ih (n / 1000000000) (by omega) h1
   rw [show nl (n / 1000000000)=nl (n / 1000000000) - 1+1 by omega,pw_succ]
   omega
theorem nl_iff {n k:Nat}:nl n<=k ↔ n < pw k:=by
 constructor
 ·intro h; exact Nat.lt_of_lt_of_le (lt_nl n) (pw_le h)
 ·intro h
  by_cases h0:n=0
  ·subst h0; rw [nl_zero]; omega
  ·obtain ⟨h1,h2⟩:=nl_le n h0
   have:=pw_lt_iff.1 (Nat.lt_of_le_of_lt h2 h)
   omega
theorem lt_nl_iff {n k:Nat}:k < nl n ↔ pw k<=n:=by
 have:=nl_iff (n:=n) (k:=k); omega
theorem nl_mono {m n:Nat} (h:m<=n):nl m<=nl n:=nl_iff.2 (Nat.lt_of_le_of_lt h (lt_nl n))
theorem nl_eq_zero {n:Nat}:nl n=0 ↔ n=0:=by
 constructor
 ·intro h; by_cases h0:n=0
  ·exact h0
  ·have:=(nl_le n h0).1; omega
 ·rintro rfl; exact nl_zero
theorem nl_mul (a b:Nat):nl (a * b)<=nl a+nl b:=by
 rw [nl_iff,pw_add]
 by_cases h:b=0
 ·subst h; rw [Nat.mul_zero]; exact Nat.mul_pos (pw_pos _) (pw_pos _)
 ·exact Nat.mul_lt_mul_of_lt_of_le (lt_nl a) (Nat.le_of_lt (lt_nl b)) (pw_pos _)
theorem nl_add (a b:Nat):nl (a+b)<=max (nl a) (nl b)+1:=by
 rw [nl_iff,pw_succ]
 have h1:=Nat.lt_of_lt_of_le (lt_nl a) (pw_le (Nat.le_max_left (nl a) (nl b)))
 have h2:=Nat.lt_of_lt_of_le (lt_nl b) (pw_le (Nat.le_max_right (nl a) (nl b)))
 omega
theorem natL_len_nl (n:Nat):(natL n).length=nl n:=rfl
theorem ni_cons_zero (d:Int) (l:List Int):ni (d :: l) 0=d:=rfl
theorem ni_cons_succ (d:Int) (l:List Int) (i:Nat):ni (d :: l) (i+1)=ni l i:=rfl
theorem ni_nil (i:Nat):ni [] i=0:=rfl
theorem ni_natL:∀ (i n:Nat),ni (natL n) i=(dg n i:Nat):=by
 intro i
 induction i with
 | zero =>
  intro n
  by_cases h:n=0
  ·subst h; rw [natL_zero]; rfl
  ·rw [natL_pos (by omega),ni_cons_zero,dg_zero]
 | succ i ih =>
  intro n
  by_cases h:n=0
  ·subst h; rw [natL_zero,ni_nil,dg_of_lt (pw_pos _)]; rfl
  ·rw [natL_pos (by omega),ni_cons_succ,ih,dg_succ]
theorem list_ext_ni {l m:List Int} (hl:l.length=m.length) (h:∀ i < l.length,ni l i=ni m i):l=m:=by
 apply List.ext_getElem hl
 intro i h1 h2
 rw [<-ni_lt h1,<-ni_lt h2]; exact h i h1
def dig (n k:Nat):List Int:=(List.range k).map fun i=>((dg n i:Nat):Int)
theorem dig_len (n k:Nat):(dig n k).length=k:=by simp [dig]
theorem dig_succ (n k:Nat):dig n (k+1)=dig n k++[((dg n k:Nat):Int)]:=by simp [dig,List.range_succ]
theorem ni_dig {n k i:Nat} (h:i < k):ni (dig n k) i=(dg n i:Nat):=by
 rw [ni_lt (by rw [dig_len]; exact h)]; simp [dig]
theorem natL_dig (n:Nat):natL n=dig n (nl n):=by
 refine list_ext_ni (by rw [dig_len]; rfl) fun i hi=>?_
 rw [ni_natL,ni_dig (show i < nl n from hi)]
theorem dig_eq {n k:Nat} (h:n < pw k) (h2:k=0\/pw (k - 1)<=n):dig n k=natL n:=by
 have:nl n=k:=by
  have h1:=nl_iff.2 h
  rcases h2 with h2|h2
  ·omega
  ·have:=lt_nl_iff.2 h2; omega
 rw [natL_dig,this]
theorem trimN_eq {l:List Int} {m:Nat}:∀ n:Nat,m<=n->(∀ i,m<=i->i < n->ni l i=0)->(m=0\/ni l (m - 1) ≠ 0)->trimN l n=m:=by
 intro n
 induction n with
 | zero =>
  intro h _ _
  have:m=0:=by omega
  subst this; rfl
 | succ n ih =>
  intro h h1 h2
  rcases Nat.lt_or_ge n m with h3|h3
  ·have:m=n+1:=by omega
   subst this
   rw [trimN,if_neg]
   rcases h2 with h2|h2
   ·omega
   ·exact h2
  ·rw [trimN,if_pos (h1 n h3 (by omega))]
   exact ih h3 (fun i a b=>h1 i a (by omega)) h2
theorem trimL_dig {n k:Nat} (h:n < pw k):trimL (dig n k)=natL n:=by
 have hk:=nl_iff.2 h
 have ht:trimN (dig n k) k=nl n:=by
  refine trimN_eq k hk (fun i h1 h2=>?_) ?_
  ·rw [ni_dig h2,dg_of_lt (Nat.lt_of_lt_of_le (lt_nl n) (pw_le h1))]; rfl
  ·by_cases h0:n=0
   ·exact .inl (nl_eq_zero.2 h0)
   ·obtain ⟨h1,h2⟩:=nl_le n h0
    refine .inr ?_
    rw [ni_dig (by omega),dg_top (by rw [show nl n - 1+1=nl n by omega]; exact lt_nl n)]
    have:=Nat.div_pos h2 (pw_pos _)
    omega
 rw [trimL,dig_len,ht]
 refine list_ext_ni (by rw [List.length_take,dig_len,natL_len_nl]; omega) fun i hi=>?_
 have hi2:i < nl n:=by rw [List.length_take,dig_len] at hi; omega
 rw [ni_natL,ni_lt hi,List.getElem_take,<-ni_lt (by rw [dig_len]; omega),ni_dig (by omega)]
theorem trimL_natL (n:Nat):trimL (natL n)=natL n:=by
 have:=trimL_dig (lt_nl n); rw [<-natL_dig] at this; exact this
def val:List Int->Nat
 | []=>0
 | d :: l=>d.toNat+1000000000 * val l
def lims (l:List Int):Prop:=∀ d ∈ l,isLb d
theorem lims_natL (n:Nat):lims (natL n):=by
 rw [natL_dig]; intro d hd
 simp only [dig,List.mem_map] at hd
 obtain ⟨i,_,rfl⟩:=hd
 have:=dg_lt n i
 constructor<;>omega
theorem lims_ni {l:List Int} (h:lims l) (i:Nat):0<=ni l i/\ni l i<=999999999:=by
 by_cases hi:i < l.length
 ·rw [ni_lt hi]; exact h _ (List.getElem_mem hi)
 ·rw [ni_ge (by omega)]; omega
theorem lims_set {l:List Int} (h:lims l) (i:Nat) {d:Int} (h1:0<=d) (h2:d<=999999999):lims (l.set i d):=by
 intro x hx
 rcases List.mem_or_eq_of_mem_set hx with hx|rfl
 ·exact h x hx
 ·exact ⟨h1,h2⟩
theorem lims_app {l m:List Int} (h:lims l) (h':lims m):lims (l++m):=fun d hd=>(List.mem_append.1 hd).elim (h d) (h' d)
theorem lims_one {d:Int} (h1:0<=d) (h2:d<=999999999):lims [d]:=fun x hx=>by rw [List.mem_singleton.1 hx]; exact ⟨h1,h2⟩
theorem lims_rep (n:Nat):lims (List.replicate n 0):=fun d hd=>by rw [(List.mem_replicate.1 hd).2]; constructor<;>decide
theorem val_rep (n:Nat):val (List.replicate n 0)=0:=by
 induction n with
 | zero=>rfl
 | succ n ih=>rw [List.replicate_succ,val,ih]; rfl
theorem val_lt {l:List Int} (h:lims l):val l < pw l.length:=by
 induction l with
 | nil=>decide
 | cons d l ih =>
  have h1:=h d List.mem_cons_self
  have h2:=ih fun x hx=>h x (List.mem_cons_of_mem _ hx)
  rw [val,List.length_cons,pw_succ]
  have:=h1.1; have:=h1.2
  omega
theorem ni_val:∀ {l:List Int} (i:Nat),lims l->ni l i=(dg (val l) i:Nat)
 | [],i,_=>by rw [ni_nil,val,dg_of_lt (pw_pos _)]; rfl
 | d :: l,0,h=>by
  have h1:=h d List.mem_cons_self
  have:=h1.1; have:=h1.2
  rw [ni_cons_zero,dg_zero,val]; omega
 | d :: l,i+1,h=>by
  have h1:=h d List.mem_cons_self
  have:=h1.1; have:=h1.2
  rw [ni_cons_succ,dg_succ,val,show (d.toNat+1000000000 * val l) / 1000000000=val l by omega]
  exact ni_val i fun x hx=>h x (List.mem_cons_of_mem _ hx)
theorem eq_dig {l:List Int} (h:lims l):l=dig (val l) l.length :=
 list_ext_ni (by rw [dig_len]) fun i hi=>by rw [ni_dig hi,ni_val i h]
theorem trimL_val {l:List Int} (h:lims l):trimL l=natL (val l):=by
 have:=trimL_dig (val_lt h)
 rw [<-eq_dig h] at this
 exact this
theorem val_natL (n:Nat):val (natL n)=n:=by
 induction n using Nat.strongRecOn with
 | _ n ih =>
  by_cases h:n=0
  ·subst h; rw [natL_zero]; rfl
  ·rw [natL_pos (by omega),val,ih (n / 1000000000) (by omega)]; omega
theorem natL_inj {m n:Nat} (h:natL m=natL n):m=n:=by rw [<-val_natL m,h,val_natL]
theorem natL_nil {n:Nat}:natL n=[] ↔ n=0:=⟨fun h=>natL_inj (h.trans natL_zero.symm),fun h=>by rw [h,natL_zero]⟩
theorem val_app (l m:List Int):val (l++m)=val l+pw l.length * val m:=by
 induction l with
 | nil=>simp [val,pw_zero]
 | cons d l ih=>rw [List.cons_append,val,val,ih,List.length_cons,pw_succ,Nat.mul_assoc]; omega
theorem val_set:∀ {l:List Int} {i:Nat} (d:Int),i < l.length->val (l.set i d)+pw i * (ni l i).toNat=val l+pw i * d.toNat
 | [],i,_,h=>by simp at h
 | x :: l,0,d,_=>by rw [List.set_cons_zero,val,val,pw_zero,ni_cons_zero]; omega
 | x :: l,i+1,d,h=>by
  have:=val_set (l:=l) (i:=i) d (by simpa using h)
  rw [List.set_cons_succ,val,val,pw_succ,ni_cons_succ,Nat.mul_assoc,Nat.mul_assoc]
  omega
theorem val_nil:val []=0:=rfl
theorem val_one (d:Int):val [d]=d.toNat:=by rw [val,val_nil]; omega
theorem okN_nat {l:List Int} (h:okNP l):l=natL (val l):=by
 obtain ⟨h1,_,h3⟩:=h
 have hl:=val_lt h1
 rw [<-dig_eq hl,<-eq_dig h1]
 rcases h3 with h3|h3
 ·exact .inl h3
 ·by_cases h0:l.length=0
  ·exact .inl h0
  ·refine .inr ?_
   rw [ni_val _ h1,dg_top (by rw [show l.length - 1+1=l.length by omega]; exact hl)] at h3
   rcases Nat.lt_or_ge (val l) (pw (l.length - 1)) with h4|h4
   ·rw [Nat.div_eq_of_lt h4] at h3; exact absurd rfl h3
   ·exact h4
theorem okNP_natL {n:Nat}:okNP (natL n) ↔ nl n<=60:=by
 constructor
 ·intro h; exact h.2.1
 ·intro h
  refine ⟨lims_natL n,h,?_⟩
  by_cases h0:n=0
  ·exact .inl (nl_eq_zero.2 h0)
  ·obtain ⟨h1,h2⟩:=nl_le n h0
   refine .inr ?_
   rw [natL_len_nl,ni_natL,dg_top (by rw [show nl n - 1+1=nl n by omega]; exact lt_nl n)]
   have:=Nat.div_pos h2 (pw_pos _)
   omega
theorem okNP_iff {l:List Int}:okNP l ↔ ∃ n,l=natL n/\nl n<=60 :=
 ⟨fun h=>⟨val l,okN_nat h,okNP_natL.1 (by rw [<-okN_nat h]; exact h)⟩,fun ⟨n,e,h⟩=>by rw [e]; exact okNP_natL.2 h⟩
def cmpN (a b:Nat):Int:=if a < b then -1 else if b < a then 1 else 0
theorem cmpR_nat (a b:Nat):∀ k:Nat,cmpR (natL a) (natL b) k=cmpN (a % pw k) (b % pw k):=by
 intro k
 induction k with
 | zero=>rw [cmpR,pw_zero,Nat.mod_one,Nat.mod_one]; rfl
 | succ k ih =>
  rw [cmpR,ni_natL,ni_natL,mod_pw_succ,mod_pw_succ]
  have ha:=Nat.mod_lt a (pw_pos k)
  have hb:=Nat.mod_lt b (pw_pos k)
  split
  ·rename_i h
   rw [ih,show dg a k=dg b k by omega]
   unfold cmpN
   simp only [Nat.add_lt_add_iff_right]
  ·rename_i h
   unfold cmpI cmpN
   rcases Nat.lt_or_ge (dg a k) (dg b k) with h1|h1
   ·have:pw k * (dg a k+1)<=pw k * dg b k:=Nat.mul_le_mul_left _ h1
    rw [Nat.mul_add,Nat.mul_one] at this
    rw [if_pos (by omega),if_pos (by omega)]
   ·have:pw k * (dg b k+1)<=pw k * dg a k:=Nat.mul_le_mul_left _ (by omega)
    rw [Nat.mul_add,Nat.mul_one] at this
    rw [if_neg (by omega),if_pos (by omega),if_neg (by omega),if_pos (by omega)]
theorem cmpL_nat (a b:Nat):cmpL (natL a) (natL b)=cmpN a b:=by
 unfold cmpL
 rw [natL_len_nl,natL_len_nl]
 split
 ·rename_i h
  rw [cmpR_nat,Nat.mod_eq_of_lt (lt_nl a),h,Nat.mod_eq_of_lt (lt_nl b)]
 ·rename_i h
  unfold cmpI cmpN
  rcases Nat.lt_or_ge (nl a) (nl b) with h1|h1
  ·have h2:=lt_nl_iff.1 h1
   have:=lt_nl a
   rw [if_pos (by omega),if_pos (by omega)]
  ·have h1:nl b < nl a:=by omega
   have h2:=lt_nl_iff.1 h1
   have:=lt_nl b
   rw [if_neg (by omega),if_pos (by omega),if_neg (by omega),if_pos (by omega)]
end Go.Proofs.YtaflkgjckmfkoaaGreat.DW

namespace Go.Proofs.YtaflkgjckmfkoaaGreat.DW
open Go.RowKit
def cry (a b i:Nat):Nat:=(a % pw i+b % pw i) / pw i
theorem cry_zero (a b:Nat):cry a b 0=0:=by rw [cry,pw_zero,Nat.mod_one,Nat.mod_one]
theorem cry_le (a b i:Nat):cry a b i<=1:=by
 have h:=pw_pos i
 have h1:=Nat.mod_lt a h
 have h2:=Nat.mod_lt b h
 have:cry a b i < 2:=by rw [cry,Nat.div_lt_iff_lt_mul h]; omega
 omega
theorem cry_sum (a b i:Nat):dg a i+dg b i+cry a b i=(a % pw (i+1)+b % pw (i+1)) / pw i:=by
 rw [mod_pw_succ,mod_pw_succ,show a % pw i+pw i * dg a i+(b % pw i+pw i * dg b i)=(a % pw i+b % pw i)+pw i * (dg a i+dg b i) by rw [Nat.mul_add]; omega,Nat.add_mul_div_left _ _ (pw_pos i),cry]
 omega
theorem cry_succ (a b i:Nat):(dg a i+dg b i+cry a b i) / 1000000000=cry a b (i+1):=by
 rw [cry_sum,cry,pw_succ,Nat.div_div_eq_div_mul,Nat.mul_comm (pw i)]
theorem dg_add_mul (n k i:Nat):dg (n+pw (i+1) * k) i=dg n i:=by
 rw [dg,dg,pw_succ,show 1000000000 * pw i * k=pw i * (1000000000 * k) by simp only [Nat.mul_assoc,Nat.mul_left_comm],Nat.add_mul_div_left _ _ (pw_pos i),Nat.add_mul_mod_self_left]
theorem cry_dg (a b i:Nat):(dg a i+dg b i+cry a b i) % 1000000000=dg (a+b) i:=by
 have e:a+b=(a % pw (i+1)+b % pw (i+1))+pw (i+1) * (a / pw (i+1)+b / pw (i+1)):=by
  have h1:=Nat.mod_add_div a (pw (i+1))
  have h2:=Nat.mod_add_div b (pw (i+1))
  rw [Nat.mul_add]; omega
 rw [e,dg_add_mul,cry_sum,dg]
theorem cry_end {a b i:Nat} (h1:nl a<=i) (h2:nl b<=i) (h3:cry a b i=0):a+b < pw i:=by
 rw [cry,Nat.mod_eq_of_lt (nl_iff.1 h1),Nat.mod_eq_of_lt (nl_iff.1 h2),Nat.div_eq_zero_iff] at h3
 have:=pw_pos i
 omega
theorem cry_big {a b i:Nat} (h:i < nl a\/i < nl b\/0 < cry a b i):pw i<=a+b:=by
 rcases h with h|h|h
 ·have:=lt_nl_iff.1 h; omega
 ·have:=lt_nl_iff.1 h; omega
 ·have h1:=Nat.mod_le a (pw i)
  have h2:=Nat.mod_le b (pw i)
  have:pw i<=a % pw i+b % pw i:=by
   rw [cry] at h
   rcases Nat.lt_or_ge (a % pw i+b % pw i) (pw i) with h3|h3
   ·rw [Nat.div_eq_of_lt h3] at h; omega
   ·exact h3
  omega
theorem sub_dg (b d i:Nat):dg (b+d) i+1000000000 * cry b d (i+1)=dg b i+dg d i+cry b d i:=by
 rw [<-cry_dg,<-cry_succ]
 exact Nat.mod_add_div _ _
theorem pw_mul_lt {a b i k:Nat} (h1:a < pw i) (h2:b < pw k):a * b < pw (i+k):=by
 rw [pw_add]
 by_cases hb:b=0
 ·subst hb; rw [Nat.mul_zero]; exact Nat.mul_pos (pw_pos i) (pw_pos k)
 ·exact Nat.mul_lt_mul_of_lt_of_le h1 (Nat.le_of_lt h2) (pw_pos k)
theorem mul_step {out:List Int} {j:Nat} {x y c n:Int} {V:Nat} (hl:lims out) (hj:j < out.length) (hx:0<=x) (hx2:x<=999999999) (hy:0<=y) (hy2:y<=999999999) (hc:0<=c) (hc2:c<=999999999) (hn:n=ni out j+x * y+c) (hv:val out+pw j * c.toNat=V) :
  0<=n/\n<=999999999999999999/\lims (out.set j (n % 1000000000))/\val (out.set j (n % 1000000000))+pw (j+1) * (n / 1000000000).toNat=V+pw j * (x * y).toNat:=by
 have h1:=lims_ni hl j
 have hxy:0<=x * y:=Int.mul_nonneg hx hy
 have hxy2:x * y<=999999999 * 999999999:=Int.mul_le_mul hx2 hy2 hy (by omega)
 refine ⟨by omega,by omega,lims_set hl j (by omega) (by omega),?_⟩
 have hs:=val_set (n % 1000000000) hj
 generalize val (out.set j (n % 1000000000))=v' at *
 rw [pw_succ]
 have e1:n.toNat=(ni out j).toNat+(x * y).toNat+c.toNat:=by omega
 have e2:n.toNat=(n % 1000000000).toNat+1000000000 * (n / 1000000000).toNat:=by omega
 generalize (ni out j).toNat=o at *
 generalize (x * y).toNat=p at *
 generalize c.toNat=cc at *
 generalize (n % 1000000000).toNat=r at *
 generalize (n / 1000000000).toNat=q at *
 have e3:pw j * n.toNat=pw j * o+pw j * p+pw j * cc:=by rw [e1,Nat.mul_add,Nat.mul_add]
 have e4:pw j * n.toNat=pw j * r+1000000000 * pw j * q:=by
  rw [e2,Nat.mul_add,<-Nat.mul_assoc,Nat.mul_comm (pw j) 1000000000]
 omega
theorem mul_row (a b i k:Nat):a % pw i * b+pw i * (dg a i * (b % pw k))+pw (i+k) * (dg a i * dg b k)=a % pw i * b+pw i * (dg a i * (b % pw (k+1))):=by
 rw [mod_pw_succ,pw_add,Nat.mul_add (dg a i),Nat.mul_add (pw i),<-Nat.add_assoc]
 congr 1
 simp only [Nat.mul_assoc,Nat.mul_left_comm,Nat.mul_comm]
theorem mul_rowEnd {a b i k:Nat} (h:nl b<=k):a % pw i * b+pw i * (dg a i * (b % pw k))=a % pw (i+1) * b:=by
 rw [Nat.mod_eq_of_lt (nl_iff.1 h),mod_pw_succ,Nat.add_mul,Nat.mul_assoc]
theorem mul_rowLt (a b i k:Nat):a % pw i * b+pw i * (dg a i * (b % pw k)) < pw (i+1+nl b):=by
 have h1:a % pw i * b+pw i * (dg a i * (b % pw k))<=a % pw (i+1) * b:=by
  rw [mod_pw_succ,Nat.add_mul,Nat.mul_assoc]
  exact Nat.add_le_add_left (Nat.mul_le_mul_left _ (Nat.mul_le_mul_left _ (Nat.mod_le _ _))) _
 exact Nat.lt_of_le_of_lt h1 (pw_mul_lt (Nat.mod_lt _ (pw_pos _)) (lt_nl b))
theorem small_step {a n i:Nat} (hn:0 < n):(a / pw (i+1) % n * 1000000000+dg a i) % n=a / pw i % n/\a / pw i / n=1000000000 * (a / pw (i+1) / n)+(a / pw (i+1) % n * 1000000000+dg a i) / n/\(a / pw (i+1) % n * 1000000000+dg a i) / n < 1000000000:=by
 have h1:=div_pw_succ a i
 have h2:=dg_lt a i
 generalize dg a i=d at *
 generalize a / pw (i+1)=q at *
 have h3:=Nat.mod_add_div q n
 have h4:=Nat.mod_lt q hn
 have h5:a / pw i=q % n * 1000000000+d+n * (1000000000 * (q / n)):=by
  rw [h1,Nat.mul_left_comm]; omega
 rw [h5]
 generalize q % n=r at *
 refine ⟨by rw [Nat.add_mul_mod_self_left],by rw [Nat.add_mul_div_left _ _ hn]; omega,?_⟩
 rw [Nat.div_lt_iff_lt_mul hn]
 have:(r+1) * 1000000000<=n * 1000000000:=Nat.mul_le_mul_right _ h4
 rw [Nat.mul_comm 1000000000 n]
 omega
theorem small_set {out:List Int} {i v:Nat} {V:Nat} (hl:lims out) (hi:i < out.length) (hv:v < 1000000000) (hV:val out=pw (i+1) * V):lims (out.set i (v:Int))/\val (out.set i (v:Int))=pw i * (1000000000 * V+v):=by
 refine ⟨lims_set hl i (by omega) (by omega),?_⟩
 have hs:=val_set (v:Int) hi
 have h0:ni out i=0:=by
  rw [ni_val i hl,hV,dg,pw_succ,Nat.mul_assoc,Nat.mul_left_comm,Nat.mul_div_cancel_left _ (pw_pos i),Nat.mul_mod_right]; rfl
 rw [h0,hV,Int.toNat_natCast,pw_succ] at hs
 rw [Nat.mul_add,<-Nat.mul_assoc,Nat.mul_comm (pw i) 1000000000]
 simpa using hs
end Go.Proofs.YtaflkgjckmfkoaaGreat.DW

namespace Go.Proofs.YtaflkgjckmfkoaaGreat.DW
open Go.RowKit
attribute [go_sem] ni_natL natL_len_nl
theorem app1 {l:List Int} {x y:Int} (h:x=y):l++[x]=l++[y]:=by rw [h]
set_option maxRecDepth 100000 in
theorem natAdd_fn (a b:Nat) (ha:nl a<=100000) (hb:nl b<=100000):Fn Tryz.prog 71 [⟨tInts,natL a⟩,⟨tInts,natL b⟩] true [⟨tInts,natL (a+b)⟩]:=by
 refine fn_enter tabOK mixes Tryz.func71 rfl rfl _ Tryz.ntmps71 _ Tryz.results71 (by simp) fun hwf=>?_
 try simp (maxSteps:=9^9) only[go_sem]
 refine ⟨by constructor<;>omega,by omega,by omega,?_⟩
 refine LoopG.intro _ _ _ (fun i:Nat=>⟨[(0,.sl .int (natL a)),(1,.sl .int (natL b)),(5,.row 0 0),(6,.sc (.int .i64 (cry a b i:Nat))),(7,.sc (.int .i64 i))],[(0,.row 3 .int 0 true (dig (a+b) i))]⟩) (fun i=>i<=100001/\(i=0\/pw (i - 1)<=a+b)) (fun i=>100002 - i) 0 ?_ ⟨by omega,.inl rfl⟩ ?_
 ·refine Wk.mk [] ?_
  try simp (maxSteps:=9^9) only[go_sem]
  try (and_intros<;>first|rfl|omega|exact ⟨_,rfl⟩)
  all_goals (exact ⟨⟨by rw [cry_zero]; rfl,rfl⟩,rfl⟩)
 ·rintro i ⟨h1,h2⟩
  have hcl:=cry_le a b i
  by_cases hc:(i:Int) < nl a\/(i:Int) < nl b\/(0:Int) < (cry a b i:Nat)
  ·have hbig:pw i<=a+b:=cry_big (by omega)
   have hi:i<=100000:=by
    have:=nl_add a b
    have:=lt_nl_iff.2 hbig
    omega
   have hda:=dg_lt a i
   have hdb:=dg_lt b i
   have hp:(i:Int) < nl a\/(¬ (i:Int) < nl a/\(i:Int) < nl b)\/(¬ (i:Int) < nl a/\¬ (i:Int) < nl b/\(0:Int) < (cry a b i:Nat)):=by omega
   rcases hp with hA|⟨hA,hB⟩|⟨hA,hB,hC⟩
   all_goals first|simp (maxSteps:=9^9) only[go_sem,hA,hB,hC]|simp (maxSteps:=9^9) only[go_sem,hA,hB]|simp (maxSteps:=9^9) only[go_sem,hA]
   all_goals
    repeat refine And.intro (by first|omega|(constructor<;>omega)|kernel_rfl) ?_
    refine CallW.mk (limb_fn (natL a) i (by omega)) ?_
    try simp (maxSteps:=9^9) only[go_sem]
    repeat refine And.intro (by first|omega|(constructor<;>omega)|kernel_rfl) ?_
    refine CallW.mk (limb_fn (natL b) i (by omega)) ?_
    try simp (maxSteps:=9^9) only[go_sem]
    refine ⟨by constructor<;>omega,by constructor<;>omega,RemW.pos (by omega) (by decide) ?_⟩
    try simp (maxSteps:=9^9) only[go_sem,dig_len]
    refine ⟨by omega,by omega,QuoW.pos (by omega) (by decide) ?_⟩
    try simp (maxSteps:=9^9) only[go_sem]
    refine ⟨by constructor<;>omega,LoopK.mk (i+1) ?_ ⟨by omega,.inr hbig⟩ (by omega)⟩
    refine Wk.mk [] ?_
    try simp (maxSteps:=9^9) only[go_sem]
    try (and_intros<;>first|rfl|omega|exact ⟨_,rfl⟩)
    all_goals (rw [dig_succ,<-cry_dg a b i,<-cry_succ a b i]; exact ⟨⟨by omega,rfl⟩,app1 (by omega)⟩)
  ·have hA:¬ (i:Int) < nl a:=by omega
   have hB:¬ (i:Int) < nl b:=by omega
   have hC:¬ (0:Int) < (cry a b i:Nat):=by omega
   try simp (maxSteps:=9^9) only[go_sem,hA,hB,hC]
   exact dig_eq (cry_end (by omega) (by omega) (by omega)) (by omega)
end Go.Proofs.YtaflkgjckmfkoaaGreat.DW

namespace Go.Proofs.YtaflkgjckmfkoaaGreat.DW
open Go.RowKit
theorem natSub_fn' (b d:Nat) (ha:nl (b+d)<=100000):Fn Tryz.prog 115 [⟨tInts,natL (b+d)⟩,⟨tInts,natL b⟩] false [⟨tInts,natL d⟩]:=by
 refine fn_enter tabOK mixes Tryz.func115 rfl rfl _ Tryz.ntmps115 _ Tryz.results115 (by simp) fun hwf=>?_
 try simp (maxSteps:=9^9) only[go_sem]
 refine ⟨by omega,by omega,?_⟩
 refine LoopG.intro _ _ _ (fun i:Nat=>⟨[(0,.sl .int (natL (b+d))),(1,.sl .int (natL b)),(5,.row 0 0),(6,.sc (.int .i64 (cry b d i:Nat))),(13,.sc (.int .i64 (nl (b+d)))),(14,.sc (.int .i64 i))],[(0,.row 3 .int 0 true (dig d i))]⟩) (fun i=>i<=nl (b+d)) (fun i=>nl (b+d) - i) 0 ?_ (by omega) ?_
 ·refine Wk.mk [] ?_
  try simp (maxSteps:=9^9) only[go_sem]
  try (and_intros<;>first|rfl|omega|exact ⟨_,rfl⟩)
  all_goals (exact ⟨⟨by rw [cry_zero]; rfl,rfl⟩,rfl⟩)
 ·rintro i h1
  have hs:=sub_dg b d i
  have hc1:=cry_le b d i
  have hc2:=cry_le b d (i+1)
  have hd1:=dg_lt b i
  have hd2:=dg_lt d i
  have hd3:=dg_lt (b+d) i
  try simp (maxSteps:=9^9) only[go_sem]
  refine CondW_dec (fun hA=>?_) (fun hA=>?_)
  ·try simp (maxSteps:=9^9) only[go_sem,hA]
   refine ⟨by omega,?_⟩
   repeat refine And.intro (by first|omega|(constructor<;>omega)|kernel_rfl) ?_
   refine CallW.mk (limb_fn (natL b) i (by omega)) ?_
   try simp (maxSteps:=9^9) only[go_sem]
   refine ⟨by constructor<;>omega,by constructor<;>omega,by kernel_rfl,?_⟩
   refine CondW_dec (fun hB=>?_) (fun hB=>?_)
   ·try simp (maxSteps:=9^9) only[go_sem]
    refine ⟨by constructor<;>omega,?_⟩
    try simp (maxSteps:=9^9) only[go_sem,dig_len]
    refine ⟨by omega,by omega,by constructor<;>omega,LoopK.mk (i+1) ?_ (by omega) (by omega)⟩
    refine Wk.mk [] ?_
    try simp (maxSteps:=9^9) only[go_sem]
    try (and_intros<;>first|rfl|omega|exact ⟨_,rfl⟩)
    all_goals (rw [dig_succ]; exact ⟨⟨by omega,by omega⟩,app1 (by omega)⟩)
   ·try simp (maxSteps:=9^9) only[go_sem,dig_len]
    refine ⟨by omega,by omega,by constructor<;>omega,LoopK.mk (i+1) ?_ (by omega) (by omega)⟩
    refine Wk.mk [] ?_
    try simp (maxSteps:=9^9) only[go_sem]
    try (and_intros<;>first|rfl|omega|exact ⟨_,rfl⟩)
    all_goals (rw [dig_succ]; exact ⟨⟨by omega,by omega⟩,app1 (by omega)⟩)
  ·try simp (maxSteps:=9^9) only[go_sem,hA]
   repeat refine And.intro (by first|omega|(constructor<;>omega)|kernel_rfl) ?_
   refine CallW.mk (trimmed_fn (dig d i)) ?_
   try simp (maxSteps:=9^9) only[go_sem]
   exact trimL_dig (Nat.lt_of_le_of_lt (Nat.le_add_left d b) (nl_iff.1 (by omega)))
theorem natSub_fn (a b:Nat) (hab:b<=a) (ha:nl a<=100000):Fn Tryz.prog 115 [⟨tInts,natL a⟩,⟨tInts,natL b⟩] false [⟨tInts,natL (a - b)⟩]:=by
 obtain ⟨d,rfl⟩:=Nat.le.dest hab
 rw [Nat.add_sub_cancel_left]
 exact natSub_fn' b d ha
end Go.Proofs.YtaflkgjckmfkoaaGreat.DW

namespace Go.Proofs.YtaflkgjckmfkoaaGreat.DW
open Go.RowKit
theorem toNat_mul_dg (a b i k:Nat):((dg a i:Int) * (dg b k:Int)).toNat=dg a i * dg b k:=by rw [<-Int.natCast_mul,Int.toNat_natCast]
theorem toNat_addc (i k:Nat):((i:Int)+(k:Int)).toNat=i+k:=by omega
attribute [go_sem] toNat_addc ne_eq
theorem natMul_fn (a b:Nat) (ha:nl a<=100000) (hb:nl b<=100000):Fn Tryz.prog 67 [⟨tInts,natL a⟩,⟨tInts,natL b⟩] false [⟨tInts,natL (a * b)⟩]:=by
 refine fn_enter tabOK mixes Tryz.func67 rfl rfl _ Tryz.ntmps67 _ Tryz.results67 (by simp) fun hwf=>?_
 try simp (maxSteps:=9^9) only[go_sem]
 repeat refine And.intro (by first|omega|(constructor<;>omega)|kernel_rfl) ?_
 refine LoopG.intro _ _ _ (fun x:Nat × List Int=>⟨[(0,.sl .int (natL a)),(1,.sl .int (natL b)),(5,.row 0 0),(17,.sl .int (natL a)),(18,.sc (.int .i64 (nl a))),(19,.sc (.int .i64 x.1))],[(0,.row 3 .int 0 true x.2)]⟩) (fun x=>x.1<=nl a/\lims x.2/\x.2.length=nl a+nl b/\val x.2=a % pw x.1 * b) (fun x=>nl a - x.1) (0,List.replicate (nl a+nl b) 0) ?_ ⟨by simp,lims_rep _,by simp,by simp [val_rep,pw_zero,Nat.mod_one]⟩ ?_
 ·refine Wk.mk [] ?_
  try simp (maxSteps:=9^9) only[go_sem]
  try (and_intros<;>first|rfl|omega|exact ⟨_,rfl⟩)
 ·rintro ⟨i,out⟩ ⟨h1,h2,h3,h4⟩
  simp only at h1 h2 h3 h4
  have hd1:=dg_lt a i
  try simp (maxSteps:=9^9) only[go_sem]
  refine CondW_dec (fun hA=>?_) (fun hA=>?_)
  ·try simp (maxSteps:=9^9) only[go_sem,hA]
   repeat refine And.intro (by first|omega|(constructor<;>omega)|kernel_rfl) ?_
   refine LoopG.intro _ _ _ (fun x:Nat × Int × List Int=>⟨[(0,.sl .int (natL a)),(1,.sl .int (natL b)),(5,.row 0 0),(6,.sc (.int .i64 i)),(7,.sc (.int .i64 (dg a i))),(8,.sc (.int .i64 x.2.1)),(9,.sc (.int .i64 x.1)),(17,.sl .int (natL a)),(18,.sc (.int .i64 (nl a))),(19,.sc (.int .i64 i))],[(0,.row 3 .int 0 true x.2.2)]⟩) (fun x=>x.1<=nl b+1/\0<=x.2.1/\x.2.1<=999999999/\lims x.2.2/\x.2.2.length=nl a+nl b/\val x.2.2+pw (i+x.1) * x.2.1.toNat=a % pw i * b+pw i * (dg a i * (b % pw x.1))) (fun x=>nl b+1 - x.1) (0,0,out) ?_ ⟨by simp,by simp,by simp,h2,h3,by simp [h4,pw_zero,Nat.mod_one]⟩ ?_
   ·refine Wk.mk [] ?_
    try simp (maxSteps:=9^9) only[go_sem]
    try (and_intros<;>first|rfl|omega|exact ⟨_,rfl⟩)
   ·rintro ⟨k,c,ou⟩ ⟨g1,g2,g3,g4,g5,g6⟩
    simp only at g1 g2 g3 g4 g5 g6
    by_cases hc:(k:Int) < nl b\/0 < c
    ·have hk:k<=nl b:=by
      rcases hc with hc|hc
      ·omega
      ·have e1:=mul_rowLt a b i k
       rw [<-g6] at e1
       have e2:pw (i+k) * 1<=pw (i+k) * c.toNat:=Nat.mul_le_mul_left _ (by omega)
       have e3:pw (i+k) < pw (i+1+nl b):=by omega
       have:=pw_lt_iff.1 e3
       omega
     have hd2:=dg_lt b k
     obtain ⟨m1,m2,m3,m4⟩:=mul_step (j:=i+k) (x:=dg a i) (y:=dg b k) (c:=c) (n:=ni ou (i+k)+dg a i * dg b k+c) g4 (by omega) (by omega) (by omega) (by omega) (by omega) g2 g3 rfl g6
     rw [toNat_mul_dg,mul_row] at m4
     have hni:=lims_ni g4 (i+k)
     have hmm:0<=(dg a i:Int) * (dg b k:Int):=Int.mul_nonneg (by omega) (by omega)
     generalize hmg:(dg a i:Int) * (dg b k:Int)=mm at *
     have hp:(k:Int) < nl b\/(¬ (k:Int) < nl b/\0 < c):=by omega
     rcases hp with hB|⟨hB,hC⟩
     all_goals first|simp (maxSteps:=9^9) only[go_sem,hB,hC]|simp (maxSteps:=9^9) only[go_sem,hB]
     all_goals
      repeat refine And.intro (by first|omega|(constructor<;>omega)|kernel_rfl) ?_
      refine CallW.mk (limb_fn (natL b) k (by omega)) ?_
      try simp (maxSteps:=9^9) only[go_sem]
      rw [hmg]
      repeat refine And.intro (by first|omega|(constructor<;>omega)|kernel_rfl) ?_
      refine RemW.pos (by omega) (by decide) ?_
      try simp (maxSteps:=9^9) only[go_sem]
      repeat refine And.intro (by first|omega|(constructor<;>omega)|kernel_rfl) ?_
      refine QuoW.pos (by omega) (by decide) ?_
      try simp (maxSteps:=9^9) only[go_sem]
      refine ⟨by constructor<;>omega,LoopK.mk (k+1,(ni ou (i+k)+mm+c) / 1000000000,ou.set (i+k) ((ni ou (i+k)+mm+c) % 1000000000)) ?_ ⟨by simp only; omega,by simp only; omega,by simp only; omega,m3,by simp [g5],m4⟩ (by simp only; omega)⟩
      refine Wk.mk [] ?_
      try simp (maxSteps:=9^9) only[go_sem]
      try (and_intros<;>first|rfl|omega|exact ⟨_,rfl⟩)
    ·have hB:¬ (k:Int) < nl b:=by omega
     have hC:¬ 0 < c:=by omega
     have hc0:c=0:=by omega
     try simp (maxSteps:=9^9) only[go_sem,hB,hC]
     subst hc0
     rw [mul_rowEnd (by omega)] at g6
     refine ⟨by constructor<;>omega,LoopK.mk (i+1,ou) ?_ ⟨by simp only; omega,g4,g5,by simpa using g6⟩ (by simp only; omega)⟩
     refine Wk.mk [] ?_
     try simp (maxSteps:=9^9) only[go_sem]
     try (and_intros<;>first|rfl|omega|exact ⟨_,rfl⟩)
  ·try simp (maxSteps:=9^9) only[go_sem,hA]
   repeat refine And.intro (by first|omega|(constructor<;>omega)|kernel_rfl) ?_
   refine CallW.mk (trimmed_fn out) ?_
   try simp (maxSteps:=9^9) only[go_sem]
   rw [trimL_val h2,h4,Nat.mod_eq_of_lt (nl_iff.1 (by omega))]
theorem natDivSmall_fn (a n:Nat) (hn:0 < n) (hn2:n < 1000000000) (ha:nl a<=100000):Fn Tryz.prog 117 [⟨tInts,natL a⟩,⟨.int,(n:Int)⟩] false [⟨tInts,natL (a / n)⟩,⟨.int,((a % n:Nat):Int)⟩]:=by
 refine fn_enter tabOK mixes Tryz.func117 rfl rfl _ Tryz.ntmps117 _ Tryz.results117 (by simp) fun hwf=>?_
 try simp (maxSteps:=9^9) only[go_sem]
 repeat refine And.intro (by first|omega|(constructor<;>omega)|kernel_rfl) ?_
 refine LoopG.intro _ _ _ (fun x:Nat × List Int=>⟨[(0,.sl .int (natL a)),(1,.sc (.int .i64 n)),(6,.row 0 0),(7,.sc (.int .i64 (a / pw x.1 % n:Nat))),(8,.sc (.int .i64 ((x.1:Int) - 1)))],[(0,.row 3 .int 0 true x.2)]⟩) (fun x=>x.1<=nl a/\lims x.2/\x.2.length=nl a/\val x.2=pw x.1 * (a / pw x.1 / n)) (fun x=>x.1) (nl a,List.replicate (nl a) 0) ?_ ⟨by simp,lims_rep _,by simp,by simp [val_rep,Nat.div_eq_of_lt (lt_nl a)]⟩ ?_
 ·refine Wk.mk [] ?_
  try simp (maxSteps:=9^9) only[go_sem]
  try (and_intros<;>first|rfl|omega|exact ⟨_,rfl⟩)
  all_goals (simp [Nat.div_eq_of_lt (lt_nl a)])
 ·rintro ⟨t,out⟩ ⟨h1,h2,h3,h4⟩
  simp only at h1 h2 h3 h4
  have hml:=Nat.mod_lt (a / pw t) hn
  try simp (maxSteps:=9^9) only[go_sem]
  refine CondW_dec (fun hA=>?_) (fun hA=>?_)
  ·obtain ⟨i,rfl⟩:∃ i,t=i+1:=⟨t - 1,by omega⟩
   have hd1:=dg_lt a i
   obtain ⟨s1,s2,s3⟩:=small_step (a:=a) (i:=i) hn
   obtain ⟨s4,s5⟩:=small_set h2 (show i < out.length by omega) s3 h4
   have ei:((i+1:Nat):Int) - 1=i:=by omega
   try simp (maxSteps:=9^9) only[go_sem,ei]
   repeat refine And.intro (by first|omega|(constructor<;>omega)|kernel_rfl) ?_
   refine QuoW.pos (by omega) (by omega) ?_
   try simp (maxSteps:=9^9) only[go_sem]
   repeat refine And.intro (by first|omega|(constructor<;>omega)|kernel_rfl) ?_
   refine RemW.pos (by omega) (by omega) ?_
   try simp (maxSteps:=9^9) only[go_sem]
   repeat refine And.intro (by first|omega|(constructor<;>omega)|kernel_rfl) ?_
   have eq1:(((a / pw (i+1) % n:Nat):Int) * 1000000000+(dg a i:Int)) / (n:Int)=(((a / pw (i+1) % n * 1000000000+dg a i) / n:Nat):Int):=by
    rw [Int.natCast_ediv]; congr 1
   have eq2:(((a / pw (i+1) % n:Nat):Int) * 1000000000+(dg a i:Int)) % (n:Int)=((a / pw i % n:Nat):Int):=by
    rw [<-s1,Int.natCast_emod]; congr 1
   refine LoopK.mk (i,out.set i (((a / pw (i+1) % n * 1000000000+dg a i) / n:Nat):Int)) ?_ ⟨by simp only; omega,s4,by simp [h3],by simp only; rw [s5,s2]⟩ (by simp only; omega)
   refine Wk.mk [] ?_
   try simp (maxSteps:=9^9) only[go_sem]
   try (and_intros<;>first|rfl|omega|exact ⟨_,rfl⟩)
   all_goals (rw [eq1,eq2]; exact ⟨rfl,rfl⟩)
  ·have ht:t=0:=by omega
   subst ht
   try simp (maxSteps:=9^9) only[go_sem,hA]
   repeat refine And.intro (by first|omega|(constructor<;>omega)|kernel_rfl) ?_
   refine CallW.mk (trimmed_fn out) ?_
   try simp (maxSteps:=9^9) only[go_sem]
   rw [trimL_val h2,h4,pw_zero,Nat.div_one,Nat.one_mul]
   exact ⟨rfl,rfl⟩
end Go.Proofs.YtaflkgjckmfkoaaGreat.DW

namespace Go.Proofs.YtaflkgjckmfkoaaGreat.DW
open Ieee
theorem uu_ex:∃ u:Nat,u=2 ^ 1074:=⟨_,rfl⟩
theorem gg_ex:∃ u:Nat,u=2 ^ 1000:=⟨_,rfl⟩
theorem ll_ex:∃ u:Nat,u=2 ^ 2000:=⟨_,rfl⟩
noncomputable def UU:Nat:=Classical.choose uu_ex
noncomputable def GG:Nat:=Classical.choose gg_ex
noncomputable def LL:Nat:=Classical.choose ll_ex
theorem uu_def:UU=2 ^ 1074:=Classical.choose_spec uu_ex
theorem gg_def:GG=2 ^ 1000:=Classical.choose_spec gg_ex
theorem ll_def:LL=2 ^ 2000:=Classical.choose_spec ll_ex
def Rd (x R:Nat):Prop:=∃ m k:Nat,double.read x=.number false m ((k:Int) - 1074)/\m < 2 ^ 53/\k<=2000/\R=m * 2 ^ k
def Near (T N:Nat):Prop:=T * 2 ^ 53<=N * 2 ^ 53+N/\N * 2 ^ 53<=T * 2 ^ 53+N
theorem near_refl (N:Nat):Near N N:=⟨Nat.le_add_right ..,Nat.le_add_right ..⟩
theorem double_least:double.leastPlace=-1074:=by decide
theorem double_binade:double.binade=2 ^ 52:=by decide
theorem double_inf:double.infRung=2047 * 2 ^ 52:=by decide
theorem double_sign:double.signWeight=2 ^ 63:=by decide
theorem read_rung {t kept:Nat} (h1:kept<=2 ^ 53) (h2:t=0\/2 ^ 52<=kept) (h3:t<=1990):Rd (t * 2 ^ 52+kept) (kept * 2 ^ t):=by
 have hlt:t * 2 ^ 52+kept < 2047 * 2 ^ 52:=by omega
 unfold Rd Format.read
 simp only [double_least,double_binade,double_inf,double_sign]
 have e1:(t * 2 ^ 52+kept) / 2 ^ 63 % 2=0:=by rw [Nat.div_eq_of_lt (by omega)]
 have e2:(t * 2 ^ 52+kept) % 2 ^ 63=t * 2 ^ 52+kept:=Nat.mod_eq_of_lt (by omega)
 rw [e1,e2]
 by_cases ha:t * 2 ^ 52+kept < 2 ^ 52
 ·have ht:t=0:=by omega
  subst ht
  refine ⟨kept,0,?_,by omega,by omega,rfl⟩
  rw [if_pos ha]
  simp
 ·rw [if_neg ha,if_pos hlt]
  by_cases hk:kept=2 ^ 53
  ·subst hk
   refine ⟨2 ^ 52,t+1,?_,by decide,by omega,by rw [Nat.pow_succ]; omega⟩
   have e3:(t * 2 ^ 52+2 ^ 53) % 2 ^ 52=0:=by omega
   have e4:(t * 2 ^ 52+2 ^ 53) / 2 ^ 52=t+2:=by omega
   rw [e3,e4]
   simp
   omega
  ·refine ⟨kept,t,?_,by omega,by omega,rfl⟩
   have e3:(t * 2 ^ 52+kept) % 2 ^ 52=kept - 2 ^ 52:=by omega
   have e4:(t * 2 ^ 52+kept) / 2 ^ 52=t+1:=by omega
   rw [e3,e4]
   simp
   omega
theorem cut_zero (n:Nat):Toward.even.cut false n 0=n:=by
 simp [Toward.cut,Nat.mod_one]
theorem cut_near {n d:Nat} (hd:d<=n.log2+2):2 * (Toward.even.cut false n d * 2 ^ d)<=2 * n+2 ^ d/\2 * n<=2 * (Toward.even.cut false n d * 2 ^ d)+2 ^ d/\n / 2 ^ d<=Toward.even.cut false n d/\Toward.even.cut false n d<=n / 2 ^ d+1:=by
 have hg:(1:Nat) <<< min d (n.log2+2)=2 ^ d:=by rw [Nat.min_eq_left hd,Nat.one_shiftLeft]
 have hdm:=Nat.div_add_mod n (2 ^ d)
 have hml:=Nat.mod_lt n (Nat.two_pow_pos d)
 rw [Nat.mul_comm] at hdm
 unfold Toward.cut
 simp only [hg]
 generalize n / 2 ^ d=q at *
 generalize n % 2 ^ d=r at *
 generalize 2 ^ d=g at *
 by_cases h:(decide (g < 2 * r) || g == 2 * r && q % 2 == 1)=true
 ·rw [h]
  simp only [Bool.or_eq_true,decide_eq_true_eq,Bool.and_eq_true,beq_iff_eq] at h
  rw [Bool.toNat_true,Nat.add_mul,Nat.one_mul]
  omega
 ·rw [Bool.not_eq_true] at h
  rw [h]
  simp only [Bool.or_eq_false_iff,decide_eq_false_iff_not,Bool.and_eq_false_iff,beq_eq_false_iff_ne] at h
  rw [Bool.toNat_false,Nat.add_zero]
  omega
theorem lin1 {K M g:Nat} (c1:2 * K<=2 * M+g) (c2:2 * M<=2 * K+g) (hg:2 ^ 52 * g<=M):K * 2 ^ 53<=M * 2 ^ 53+M/\M * 2 ^ 53<=K * 2 ^ 53+M:=by omega
theorem lin2 {M D n:Nat} (g1:M<=2 * D+n) (g2:2 * D<=M+n) (hb:2 ^ 53 * n<=D):M * 2 ^ 53<=2 * D * 2 ^ 53+2 * D/\2 * D * 2 ^ 53<=M * 2 ^ 53+2 * D:=by omega
theorem pmul_lt {n a b c:Nat} (h:n < 2 ^ a) (hc:a+b<=c):n * 2 ^ b < 2 ^ c:=by
 have h1:n * 2 ^ b < 2 ^ a * 2 ^ b:=Nat.mul_lt_mul_of_pos_right h (Nat.two_pow_pos b)
 rw [<-Nat.pow_add] at h1
 exact Nat.lt_of_lt_of_le h1 (Nat.pow_le_pow_right (by decide) hc)
theorem pow_split {a b c:Nat} (h:c=a+b):2 ^ c=2 ^ a * 2 ^ b:=by rw [h,Nat.pow_add]
theorem pow_join {a b c d:Nat} (h:a+b=c+d):2 ^ a * 2 ^ b=2 ^ c * 2 ^ d:=by rw [<-Nat.pow_add,<-Nat.pow_add,h]
theorem lt_cancel {a b c:Nat} (h:a * c < b * c):a < b:=Nat.lt_of_mul_lt_mul_right h
theorem not_le_zero_pow {k:Nat} (h:2 ^ k<=0):False:=absurd h (Nat.not_le_of_gt (Nat.two_pow_pos k))
theorem ple {a b:Nat} (h:a<=b):2 ^ a<=2 ^ b:=Nat.pow_le_pow_right (by decide) h
theorem pow_le_pow2 {a b:Nat} (h:2 ^ a < 2 ^ b):a < b:=(Nat.pow_lt_pow_iff_right (by decide)).1 h
theorem pjoin {i u mo q:Nat} (h:i+u=mo+1+q):2 ^ i * 2 ^ u=2 * 2 ^ mo * 2 ^ q:=by
 rw [<-Nat.pow_add,show (2:Nat) * 2 ^ mo=2 ^ (mo+1) by rw [Nat.pow_succ,Nat.mul_comm],<-Nat.pow_add,h]
theorem nearest_ok {mag p:Nat} (h:mag * 2 ^ p < 2 ^ 2000):∃ R,Rd (double.nearest false mag ((p:Int) - 1074)) R/\Near R (mag * 2 ^ p):=by
 by_cases h0:mag=0
 ·subst h0
  refine ⟨0,?_,by rw [Nat.zero_mul]; exact near_refl 0⟩
  have:double.nearest false 0 ((p:Int) - 1074)=0 * 2 ^ 52+0:=by simp [Format.nearest,Format.word]
  rw [this]
  have:=read_rung (t:=0) (kept:=0) (by decide) (.inl rfl) (by decide)
  simpa using this
 have hl1:2 ^ mag.log2<=mag:=Nat.log2_self_le h0
 have hl2:mag < 2 ^ (mag.log2+1):=Nat.lt_log2_self
 generalize hlog:mag.log2=lg at *
 have hlp:lg+p < 2000:=by
  apply pow_le_pow2
  rw [Nat.pow_add]
  exact Nat.lt_of_le_of_lt (Nat.mul_le_mul_right _ hl1) h
 have hlast:max ((p:Int) - 1074+lg - 52) (-1074)=((p+lg - 52:Nat):Int) - 1074:=by omega
 have hnear:double.nearest false mag ((p:Int) - 1074)=min ((p+lg - 52) * 2 ^ 52+Toward.even.cut false (mag <<< (p - (p+lg - 52))) (p+lg - 52 - p)) (2047 * 2 ^ 52):=by
  unfold Format.nearest
  rw [if_neg h0]
  simp only [double_least,double_binade,double_inf,hlog]
  have hf:(double.fractionBits:Int)=52:=rfl
  rw [hf,hlast]
  have e1:((((p+lg - 52:Nat):Int) - 1074) - -1074).toNat=p+lg - 52:=by omega
  have e2:((p:Int) - 1074 - (((p+lg - 52:Nat):Int) - 1074)).toNat=p - (p+lg - 52):=by omega
  have e3:((((p+lg - 52:Nat):Int) - 1074) - ((p:Int) - 1074)).toNat=p+lg - 52 - p:=by omega
  rw [e1,e2,e3]
  simp [Format.word]
 rw [hnear]
 generalize ht:p+lg - 52=t
 by_cases hc:t<=p
 ·
  rw [show t - p=0 by omega,cut_zero,Nat.shiftLeft_eq]
  have hk1:mag * 2 ^ (p - t) < 2 ^ 53:=by
   have:mag * 2 ^ (p - t) < 2 ^ (lg+1) * 2 ^ (p - t):=Nat.mul_lt_mul_of_pos_right hl2 (Nat.two_pow_pos _)
   rw [<-Nat.pow_add] at this
   exact Nat.lt_of_lt_of_le this (Nat.pow_le_pow_right (by decide) (by omega))
  have hk2:t=0\/2 ^ 52<=mag * 2 ^ (p - t):=by
   by_cases h00:t=0
   ·exact .inl h00
   ·refine .inr ?_
    have:2 ^ lg * 2 ^ (p - t)<=mag * 2 ^ (p - t):=Nat.mul_le_mul_right _ hl1
    rw [<-Nat.pow_add] at this
    rwa [show lg+(p - t)=52 by omega] at this
  have hR:=read_rung (t:=t) (kept:=mag * 2 ^ (p - t)) (by omega) hk2 (by omega)
  rw [Nat.min_eq_left (by omega)]
  refine ⟨_,hR,?_⟩
  rw [Nat.mul_assoc,<-Nat.pow_add,show p - t+t=p by omega]
  exact near_refl _
 ·rw [show p - t=0 by omega,Nat.shiftLeft_zero,show t - p=lg - 52 by omega]
  have hlg:52 < lg:=by omega
  obtain ⟨c1,c2,c3,c4⟩:=cut_near (n:=mag) (d:=lg - 52) (by rw [hlog]; omega)
  generalize Toward.even.cut false mag (lg - 52)=kept at *
  have hq1:2 ^ 52<=mag / 2 ^ (lg - 52):=by
   rw [Nat.le_div_iff_mul_le (Nat.two_pow_pos _),<-Nat.pow_add,show 52+(lg - 52)=lg by omega]; exact hl1
  have hq2:mag / 2 ^ (lg - 52) < 2 ^ 53:=by
   rw [Nat.div_lt_iff_lt_mul (Nat.two_pow_pos _),<-Nat.pow_add,show 53+(lg - 52)=lg+1 by omega]; exact hl2
  have hR:=read_rung (t:=t) (kept:=kept) (by omega) (.inr (by omega)) (by omega)
  rw [Nat.min_eq_left (by omega)]
  refine ⟨_,hR,?_⟩
  rw [show t=(lg - 52)+p by omega,Nat.pow_add,<-Nat.mul_assoc]
  have hg:2 ^ 52 * 2 ^ (lg - 52)<=mag:=by rw [<-Nat.pow_add,show 52+(lg - 52)=lg by omega]; exact hl1
  generalize kept * 2 ^ (lg - 52)=K at *
  generalize 2 ^ (lg - 52)=g at *
  obtain ⟨d1,d2⟩:=lin1 c1 c2 hg
  constructor
  ·have:=Nat.mul_le_mul_right (2 ^ p) d1
   rw [Nat.add_mul] at this
   rw [Nat.mul_right_comm K,Nat.mul_right_comm mag]; exact this
  ·have:=Nat.mul_le_mul_right (2 ^ p) d2
   rw [Nat.add_mul] at this
   rw [Nat.mul_right_comm K,Nat.mul_right_comm mag]; exact this
theorem rd_of_int {n:Nat} (h:n < 2 ^ 900):∃ R,Rd (floatOfInt .f64 n) R/\Near R (n * UU):=by
 have h1:n * 2 ^ 1074 < 2 ^ 2000:=pmul_lt (a:=900) (b:=1074) (c:=2000) h (by omega)
 obtain ⟨R,h2,h3⟩:=nearest_ok (mag:=n) (p:=1074) h1
 refine ⟨R,?_,by rw [uu_def]; exact h3⟩
 have:floatOfInt .f64 n=double.nearest false n (((1074:Nat):Int) - 1074):=by
  have hd:decide ((n:Int) < 0)=false:=by simp
  simp [floatOfInt,FloatKind.nearest,FloatKind.encode,FloatKind.format,Format.write,hd]
 rw [this]; exact h2
theorem rd_add {x y R S:Nat} (hx:Rd x R) (hy:Rd y S) (h:R+S < 2 ^ 2000):∃ r T,double.add x y=some r/\Rd r T/\Near T (R+S):=by
 obtain ⟨m,i,h1,_,_,rfl⟩:=hx
 obtain ⟨n,j,h2,_,_,rfl⟩:=hy
 have hsum:double.add x y=some (double.nearest false (m * 2 ^ (i - min i j)+n * 2 ^ (j - min i j)) (((min i j:Nat):Int) - 1074)):=by
  unfold Format.add
  rw [h1,h2]
  have hb:min ((i:Int) - 1074) ((j:Int) - 1074)=((min i j:Nat):Int) - 1074:=by
   rcases Nat.le_total i j with h|h
   ·rw [Nat.min_eq_left h,Int.min_eq_left (by omega)]
   ·rw [Nat.min_eq_right h,Int.min_eq_right (by omega)]
  simp only [Datum.sum,hb,signed,Bool.false_eq_true,if_false,Nat.shiftLeft_eq,Bool.and_false,Option.map_some,Format.write]
  rw [show ((i:Int) - 1074 - (((min i j:Nat):Int) - 1074)).toNat=i - min i j by omega,show ((j:Int) - 1074 - (((min i j:Nat):Int) - 1074)).toNat=j - min i j by omega]
  have hn:((m * 2 ^ (i - min i j):Nat):Int)+((n * 2 ^ (j - min i j):Nat):Int)=((m * 2 ^ (i - min i j)+n * 2 ^ (j - min i j):Nat):Int):=by rw [Int.natCast_add]
  rw [hn]
  have hd:decide (((m * 2 ^ (i - min i j)+n * 2 ^ (j - min i j):Nat):Int) < 0)=false:=decide_eq_false (Int.not_lt.2 (Int.natCast_nonneg _))
  have hs:(if ((m * 2 ^ (i - min i j)+n * 2 ^ (j - min i j):Nat):Int)=0 then false else decide (((m * 2 ^ (i - min i j)+n * 2 ^ (j - min i j):Nat):Int) < 0))=false:=by
   split
   ·rfl
   ·exact hd
  rw [hs,Int.natAbs_natCast]
 have he:(m * 2 ^ (i - min i j)+n * 2 ^ (j - min i j)) * 2 ^ (min i j)=m * 2 ^ i+n * 2 ^ j:=by
  rw [Nat.add_mul,Nat.mul_assoc,Nat.mul_assoc,<-Nat.pow_add,<-Nat.pow_add,show i - min i j+min i j=i by omega,show j - min i j+min i j=j by omega]
 obtain ⟨T,h3,h4⟩:=nearest_ok (mag:=m * 2 ^ (i - min i j)+n * 2 ^ (j - min i j)) (p:=min i j) (by rw [he]; exact h)
 rw [he] at h4
 exact ⟨_,T,hsum,h3,h4⟩
theorem rd_zero_nearest (z:Int):Rd (double.nearest false 0 z) 0:=by
 have:double.nearest false 0 z=0 * 2 ^ 52+0:=by simp [Format.nearest,Format.word]
 rw [this]
 have:=read_rung (t:=0) (kept:=0) (by decide) (.inl rfl) (by decide)
 simpa using this
theorem big_k {m k:Nat} (h:m < 2 ^ 53) (h2:2 ^ 1000<=m * 2 ^ k):948<=k:=by
 have:2 ^ 1000 < 2 ^ (53+k):=by
  rw [Nat.pow_add]
  exact Nat.lt_of_le_of_lt h2 (Nat.mul_lt_mul_of_pos_right h (Nat.two_pow_pos _))
 have:=pow_le_pow2 this
 omega
theorem rd_mul {x y R S L:Nat} (hL:L=2 ^ 2000) (hx:Rd x R) (hy:Rd y S) (h1:R=0\/2 ^ 1000<=R) (h2:2 ^ 1000<=S) (h:R * S < L * UU):∃ r T N,double.mul x y=some r/\Rd r T/\Near T N/\N * UU=R * S:=by
 obtain ⟨m,i,e1,m1,_,rfl⟩:=hx
 obtain ⟨n,j,e2,m2,_,rfl⟩:=hy
 have hp:double.mul x y=some (double.nearest false (m * n) ((i:Int) - 1074+((j:Int) - 1074))):=by
  unfold Format.mul
  rw [e1,e2]
  simp [Datum.product,Format.write]
 rcases h1 with h1|h1
 ·have hm:m=0:=by
   rcases Nat.eq_zero_or_pos m with h|h
   ·exact h
   ·have:=Nat.mul_pos h (Nat.two_pow_pos i); omega
  subst hm
  refine ⟨_,0,0,hp,?_,near_refl 0,by simp⟩
  rw [Nat.zero_mul]; exact rd_zero_nearest _
 ·have k1:=big_k m1 h1
  have k2:=big_k m2 h2
  have hpl:(i:Int) - 1074+((j:Int) - 1074)=((i+j - 1074:Nat):Int) - 1074:=by omega
  have hN:m * n * 2 ^ (i+j - 1074) * UU=m * 2 ^ i * (n * 2 ^ j):=by
   rw [uu_def]
   rw [Nat.mul_assoc (m * n),pow_join (show i+j - 1074+1074=i+j by omega)]
   simp only [Nat.mul_assoc,Nat.mul_left_comm,Nat.mul_comm]
  have hlt:m * n * 2 ^ (i+j - 1074) < L:=by
   rw [<-hN] at h
   exact lt_cancel h
  rw [hL] at hlt
  obtain ⟨T,h3,h4⟩:=nearest_ok hlt
  rw [hpl] at hp
  exact ⟨_,T,_,hp,h3,h4,hN⟩
theorem rd_div {x y R S:Nat} (hx:Rd x R) (hy:Rd y S) (h1:R=0\/2 ^ 1000<=R) (h2:2 ^ 1000<=S) (hR:R < UU * 2 ^ 100) (hS:S < UU * 2 ^ 100):∃ r T N,double.div x y=some r/\Rd r T/\Near T N/\N * S * 2 ^ 53<=R * UU * 2 ^ 53+R * UU/\R * UU * 2 ^ 53<=N * S * 2 ^ 53+R * UU:=by
 obtain ⟨m,i,e1,m1,_,rfl⟩:=hx
 obtain ⟨n,j,e2,m2,_,rfl⟩:=hy
 have hn0:n ≠ 0:=by
  rintro rfl
  rw [Nat.zero_mul] at h2
  exact not_le_zero_pow h2
 have hp:double.div x y=some (double.nearest false (2 * (m <<< (54+n.log2 - m.log2) / n)+(m <<< (54+n.log2 - m.log2) % n != 0).toNat) ((i:Int) - 1074 - ((j:Int) - 1074) - ((54+n.log2 - m.log2:Nat):Int) - 1)):=by
  unfold Format.div
  rw [e1,e2]
  simp [Datum.quotient,Format.write,hn0]
  rfl
 rcases h1 with h1|h1
 ·have hm:m=0:=by
   rcases Nat.eq_zero_or_pos m with h|h
   ·exact h
   ·have:=Nat.mul_pos h (Nat.two_pow_pos i); omega
  subst hm
  refine ⟨_,0,0,hp,?_,near_refl 0,by simp,by simp⟩
  have:(2 * ((0:Nat) <<< (54+n.log2 - (0:Nat).log2) / n)+((0:Nat) <<< (54+n.log2 - (0:Nat).log2) % n != 0).toNat)=0:=by simp
  rw [this]; exact rd_zero_nearest _
 ·have hm0:m ≠ 0:=by
   rintro rfl
   rw [Nat.zero_mul] at h1
   exact not_le_zero_pow h1
  have k1:=big_k m1 h1
  have k2:=big_k m2 h2
  have k3:i < 1174:=by
   apply pow_le_pow2
   have:2 ^ i<=m * 2 ^ i:=Nat.le_mul_of_pos_left _ (by omega)
   have e:UU * 2 ^ 100=2 ^ 1174:=by rw [uu_def]; exact (pow_split (a:=1074) (b:=100) (c:=1174) rfl).symm
   omega
  have k4:j < 1174:=by
   apply pow_le_pow2
   have:2 ^ j<=n * 2 ^ j:=Nat.le_mul_of_pos_left _ (by omega)
   have e:UU * 2 ^ 100=2 ^ 1174:=by rw [uu_def]; exact (pow_split (a:=1074) (b:=100) (c:=1174) rfl).symm
   omega
  have lm1:=Nat.log2_self_le hm0
  have ln1:=Nat.log2_self_le hn0
  have lm2:m < 2 ^ (m.log2+1):=Nat.lt_log2_self
  have ln2:n < 2 ^ (n.log2+1):=Nat.lt_log2_self
  have b1:m.log2 < 53:=pow_le_pow2 (Nat.lt_of_le_of_lt lm1 m1)
  have b2:n.log2 < 53:=pow_le_pow2 (Nat.lt_of_le_of_lt ln1 m2)
  generalize m.log2=lm at *
  generalize n.log2=ln at *
  generalize hmo:54+ln - lm=mo at *
  have hD:m <<< mo=m * 2 ^ mo:=Nat.shiftLeft_eq ..
  rw [hD] at hp
  have hdm:=Nat.div_add_mod (m * 2 ^ mo) n
  have hml:=Nat.mod_lt (m * 2 ^ mo) (Nat.pos_of_ne_zero hn0)
  have hbig:2 ^ 53 * n<=m * 2 ^ mo:=by
   have e1:2 ^ lm * 2 ^ mo<=m * 2 ^ mo:=Nat.mul_le_mul_right _ lm1
   rw [<-Nat.pow_add,show lm+mo=53+(ln+1) by omega,Nat.pow_add] at e1
   exact Nat.le_trans (Nat.mul_le_mul_left _ (Nat.le_of_lt ln2)) e1
  have hsm:m * 2 ^ mo < 2 ^ 160:=by
   have e1:m * 2 ^ mo < 2 ^ (lm+1) * 2 ^ mo:=Nat.mul_lt_mul_of_pos_right lm2 (Nat.two_pow_pos _)
   rw [<-Nat.pow_add] at e1
   exact Nat.lt_of_lt_of_le e1 (Nat.pow_le_pow_right (by decide) (by omega))
  have hpl:(i:Int) - 1074 - ((j:Int) - 1074) - (mo:Int) - 1=((i+1073 - j - mo:Nat):Int) - 1074:=by omega
  generalize hp':i+1073 - j - mo=p at *
  rw [hpl] at hp
  generalize hmag:2 * (m * 2 ^ mo / n)+(m * 2 ^ mo % n != 0).toNat=mag at *
  have hmg:mag * n<=2 * (m * 2 ^ mo)+n/\2 * (m * 2 ^ mo)<=mag * n+n/\mag<=2 * (m * 2 ^ mo)+1:=by
   have hle:m * 2 ^ mo / n<=m * 2 ^ mo:=Nat.div_le_self ..
   generalize m * 2 ^ mo / n=q at *
   generalize m * 2 ^ mo % n=rr at *
   generalize m * 2 ^ mo=D at *
   rw [Nat.mul_comm n q] at hdm
   rw [<-hmag,Nat.add_mul,Nat.mul_assoc]
   by_cases h:rr=0
   ·subst h
    simp only [bne_self_eq_false,Bool.toNat_false,Nat.zero_mul]
    omega
   ·have:(rr != 0)=true:=by simp [h]
    rw [this,Bool.toNat_true,Nat.one_mul]
    omega
  have hov:mag * 2 ^ p < 2 ^ 2000:=by
   have e1:mag < 2 ^ 162:=by omega
   exact pmul_lt (a:=162) (b:=p) (c:=2000) e1 (by omega)
  obtain ⟨T,h3,h4⟩:=nearest_ok hov
  refine ⟨_,T,_,hp,h3,h4,?_⟩
  have hE:m * 2 ^ i * UU=2 * (m * 2 ^ mo) * 2 ^ (p+j):=by
   rw [uu_def]
   have:=pjoin (i:=i) (u:=1074) (mo:=mo) (q:=p+j) (by omega)
   rw [Nat.mul_assoc,this]
   simp only [Nat.mul_assoc,Nat.mul_left_comm,Nat.mul_comm]
  have hF:mag * 2 ^ p * (n * 2 ^ j)=mag * n * 2 ^ (p+j):=by
   rw [Nat.pow_add]
   simp only [Nat.mul_assoc,Nat.mul_left_comm,Nat.mul_comm]
  rw [hE,hF]
  obtain ⟨g1,g2,_⟩:=hmg
  generalize mag * n=M at *
  generalize m * 2 ^ mo=D at *
  generalize 2 ^ (p+j)=G at *
  obtain ⟨d1,d2⟩:=lin2 g1 g2 hbig
  constructor
  ·have:=Nat.mul_le_mul_right G d1
   rw [Nat.add_mul] at this
   rw [Nat.mul_right_comm M,Nat.mul_right_comm (2 * D)]; exact this
  ·have:=Nat.mul_le_mul_right G d2
   rw [Nat.add_mul] at this
   rw [Nat.mul_right_comm M,Nat.mul_right_comm (2 * D)]; exact this
theorem rd_toInt {x R:Nat} (hx:Rd x R):(double.read x).toInt .zero=some ((R / UU:Nat):Int):=by
 obtain ⟨m,k,h1,h2,h3,rfl⟩:=hx
 rw [h1]
 simp only [Datum.toInt,Datum.integral,signed,Bool.false_eq_true,if_false,Nat.shiftLeft_zero,Toward.cut]
 congr 2
 simp only [Bool.toNat_false,Nat.add_zero,Nat.shiftLeft_eq,Nat.one_mul]
 rw [uu_def]
 rcases Nat.lt_or_ge k 1074 with hk|hk
 ·rw [show ((k:Int) - 1074).toNat=0 by omega,show (-((k:Int) - 1074)).toNat=1074 - k by omega,Nat.pow_zero,Nat.mul_one]
  have he:m * 2 ^ k / 2 ^ 1074=m / 2 ^ (1074 - k):=by
   rw [show (1074:Nat)=k+(1074 - k) by omega,Nat.pow_add,<-Nat.div_div_eq_div_mul,Nat.mul_div_cancel _ (Nat.two_pow_pos _),show k+(1074 - k) - k=1074 - k by omega]
  rw [he]
  rcases Nat.le_total (1074 - k) (m.log2+2) with h|h
  ·rw [Nat.min_eq_left h]
  ·rw [Nat.min_eq_right h]
   have e1:m < 2 ^ (m.log2+2):=Nat.lt_of_lt_of_le Nat.lt_log2_self (Nat.pow_le_pow_right (by decide) (by omega))
   rw [Nat.div_eq_of_lt e1,Nat.div_eq_of_lt (Nat.lt_of_lt_of_le e1 (Nat.pow_le_pow_right (by decide) h))]
 ·rw [show (-((k:Int) - 1074)).toNat=0 by omega,show ((k:Int) - 1074).toNat=k - 1074 by omega,Nat.zero_min,Nat.pow_zero,Nat.div_one]
  rw [show k=(k - 1074)+1074 by omega,Nat.pow_add,<-Nat.mul_assoc,Nat.mul_div_cancel _ (Nat.two_pow_pos 1074),Nat.add_sub_cancel]
theorem pos_uu:0 < UU:=by rw [uu_def]; exact Nat.two_pow_pos 1074
theorem uu_eq:UU=GG * 2 ^ 74:=by rw [uu_def,gg_def]; exact pow_split (a:=1000) (b:=74) (c:=1074) rfl
theorem ll_eq:LL=UU * 2 ^ 120 * 2 ^ 806:=by
 rw [ll_def,uu_def,<-pow_split (a:=1074) (b:=120) (c:=1194) rfl]
 exact pow_split (a:=1194) (b:=806) (c:=2000) rfl
theorem rd_add' {x y R S:Nat} (hx:Rd x R) (hy:Rd y S) (h:R+S < LL):∃ r T,double.add x y=some r/\Rd r T/\Near T (R+S):=rd_add hx hy (by rw [ll_def] at h; exact h)
theorem rd_mul' {x y R S:Nat} (hx:Rd x R) (hy:Rd y S) (h1:R=0\/GG<=R) (h2:GG<=S) (h:R * S < LL * UU):∃ r T N,double.mul x y=some r/\Rd r T/\Near T N/\N * UU=R * S
 := rd_mul ll_def hx hy (by rw [gg_def] at h1; exact h1) (by rw [gg_def] at h2; exact h2) h
theorem rd_div' {x y R S:Nat} (hx:Rd x R) (hy:Rd y S) (h1:R=0\/GG<=R) (h2:GG<=S) (hR:R < UU * 2 ^ 100) (hS:S < UU * 2 ^ 100):∃ r T N,double.div x y=some r/\Rd r T/\Near T N/\N * S * 2 ^ 53<=R * UU * 2 ^ 53+R * UU/\R * UU * 2 ^ 53<=N * S * 2 ^ 53+R * UU:=rd_div hx hy (by rw [gg_def] at h1; exact h1) (by rw [gg_def] at h2; exact h2) hR hS
end Go.Proofs.YtaflkgjckmfkoaaGreat.DW

namespace Go.Proofs.YtaflkgjckmfkoaaGreat.DW
open Ieee
def Ap (c x V:Nat):Prop:=∃ R,Rd x R/\R * 2 ^ 60<=V * 2 ^ 60+c * V/\V * 2 ^ 60<=R * 2 ^ 60+c * V
theorem near_lin {T N V c:Nat} (h1:T * 2 ^ 53<=N * 2 ^ 53+N) (h2:N * 2 ^ 53<=T * 2 ^ 53+N) (h3:N * 2 ^ 60<=V * 2 ^ 60+c * V) (h4:V * 2 ^ 60<=N * 2 ^ 60+c * V) (hc:c<=2 ^ 50):T * 2 ^ 60<=V * 2 ^ 60+(c+129) * V/\V * 2 ^ 60<=T * 2 ^ 60+(c+129) * V:=by
 have hcv:c * V<=2 ^ 50 * V:=Nat.mul_le_mul_right _ hc
 rw [Nat.add_mul]
 generalize c * V=z at *
 omega
theorem ap_conv {n:Nat} (h:n < 2 ^ 900):Ap 128 (floatOfInt .f64 n) (n * UU):=by
 obtain ⟨R,h1,h2,h3⟩:=rd_of_int h
 refine ⟨R,h1,?_⟩
 clear h1 h
 generalize n * UU=V at *
 omega
theorem pow_tri (x:Nat) {a b c U:Nat} (hu:U=2 ^ c) (e:c=a+b):x * U=x * 2 ^ a * 2 ^ b:=by rw [hu,e,Nat.pow_add,Nat.mul_assoc]
theorem rd_base:Rd 4741671816366391296 (1000000000 * UU):=by
 refine ⟨1000000000 * 2 ^ 23,1051,by decide +kernel,by decide,by decide,?_⟩
 have e:=pow_tri 1000000000 (a:=23) (b:=1051) (c:=1074) uu_def rfl
 exact e
theorem lt_2000 {V:Nat} (h:V < UU * 2 ^ 120):4 * V < LL:=by
 rw [ll_eq]
 have h2:UU * 2 ^ 120 * 2 ^ 2<=UU * 2 ^ 120 * 2 ^ 806:=Nat.mul_le_mul_left _ (ple (a:=2) (b:=806) (by omega))
 refine Nat.lt_of_lt_of_le ?_ h2
 clear h2
 omega
theorem la {R V z:Nat} (h2:R * 2 ^ 60<=V * 2 ^ 60+z) (h3:V * 2 ^ 60<=R * 2 ^ 60+z) (hz:z<=2 ^ 50 * V):R<=2 * V/\V<=2 * R:=by omega
theorem lb {u g V R:Nat} (e1:u<=V) (e2:u=g * 2 ^ 74) (hb:V<=2 * R):g<=R:=by omega
theorem lc {u g:Nat} (e2:u=g * 2 ^ 74):g<=1000000000 * u:=by omega
theorem ld {R V u:Nat} (hb:R<=2 * V) (e1:V<=2 ^ 80 * u) (h:0 < u):R * 1000000000 < u * 2 ^ 120:=by omega
theorem le4 {a b:Nat} (h:4 * a < b):a < b:=by omega
theorem lf {R V z:Nat} (h2:R * 2 ^ 60<=V * 2 ^ 60+z):R * 1000000000 * 2 ^ 60<=V * 1000000000 * 2 ^ 60+z * 1000000000:=by
 have:=Nat.mul_le_mul_right 1000000000 h2
 rw [Nat.add_mul] at this
 rw [Nat.mul_right_comm R,Nat.mul_right_comm V]
 exact this
theorem lg {R S V W u:Nat} (h2:R<=2 * V) (h3:S<=2 * W) (e1:V<=2 ^ 110 * u) (e2:W<=2 ^ 110 * u) (h:0 < u):R+S < u * 2 ^ 120:=by omega
theorem lh {R S V W x y z:Nat} (h1:R * 2 ^ 60<=V * 2 ^ 60+x) (h2:S * 2 ^ 60<=W * 2 ^ 60+y) (h3:y<=z):(R+S) * 2 ^ 60<=(V+W) * 2 ^ 60+(x+z):=by
 have:=Nat.add_le_add h1 (Nat.le_trans h2 (Nat.add_le_add_left h3 _))
 rw [Nat.add_add_add_comm] at this
 rw [Nat.add_mul,Nat.add_mul]
 exact this
theorem li {R V z u:Nat} (h2:R<=2 * V) (e1:V<=2 ^ 95 * u) (h:0 < u):R < u * 2 ^ 100:=by omega
theorem ap_nz {v R:Nat} (hb:R<=2 * (v * UU)/\v * UU<=2 * R):R=0\/GG<=R:=by
 by_cases hv0:v=0
 ·subst hv0
  rw [Nat.zero_mul] at hb
  exact .inl (Nat.le_zero.1 hb.1)
 ·exact .inr (lb (Nat.le_mul_of_pos_left _ (Nat.pos_of_ne_zero hv0)) uu_eq hb.2)
theorem ap_mul {c x v:Nat} (hc:c<=2 ^ 50) (h:Ap c x (v * UU)) (hv:v < 2 ^ 80):∃ r,floatBits .mul .f64 x 4741671816366391296=some r/\Ap (c+129) r (v * 1000000000 * UU):=by
 obtain ⟨R,h1,h2,h3⟩:=h
 have hb:=la h2 h3 (Nat.mul_le_mul_right _ hc)
 have hlt:R * (1000000000 * UU) < LL * UU:=by
  rw [<-Nat.mul_assoc]
  exact Nat.mul_lt_mul_of_pos_right (le4 (lt_2000 (ld hb.1 (Nat.mul_le_mul_right _ (Nat.le_of_lt hv)) pos_uu))) pos_uu
 obtain ⟨r,T,N,e1,e2,⟨e3,e4⟩,e5⟩:=rd_mul' h1 rd_base (ap_nz hb) (lc uu_eq) hlt
 refine ⟨r,e1,T,e2,?_⟩
 have hN:N=R * 1000000000:=by
  rw [<-Nat.mul_assoc] at e5
  exact Nat.eq_of_mul_eq_mul_right pos_uu e5
 rw [hN] at e3 e4
 have hV:v * 1000000000 * UU=v * UU * 1000000000:=Nat.mul_right_comm ..
 rw [hV]
 have d1:=lf h2
 have d2:=lf h3
 rw [Nat.mul_assoc c] at d1 d2
 exact near_lin e3 e4 d1 d2 hc
theorem ap_add {c x v d y w:Nat} (hc:c<=2 ^ 50) (hdc:d<=c) (h:Ap c x (v * UU)) (h':Ap d y (w * UU)) (hv:v < 2 ^ 110) (hw:w < 2 ^ 110):∃ r,floatBits .add .f64 x y=some r/\Ap (c+129) r ((v+w) * UU):=by
 obtain ⟨R,h1,h2,h3⟩:=h
 obtain ⟨S,g1,g2,g3⟩:=h'
 have hb:=la h2 h3 (Nat.mul_le_mul_right _ hc)
 have hb':=la g2 g3 (Nat.mul_le_mul_right _ (Nat.le_trans hdc hc))
 have hlt:R+S < LL:=le4 (lt_2000 (lg hb.1 hb'.1 (Nat.mul_le_mul_right _ (Nat.le_of_lt hv)) (Nat.mul_le_mul_right _ (Nat.le_of_lt hw)) pos_uu))
 obtain ⟨r,T,e1,e2,e3,e4⟩:=rd_add' h1 g1 hlt
 refine ⟨r,e1,T,e2,?_⟩
 have hdw:d * (w * UU)<=c * (w * UU):=Nat.mul_le_mul_right _ hdc
 have d1:=lh h2 g2 hdw
 have d2:=lh h3 g3 hdw
 rw [<-Nat.mul_add] at d1 d2
 rw [Nat.add_mul v w]
 exact near_lin e3 e4 d1 d2 hc
theorem chain_up {T N S R V W U p q s t u:Nat} (h1:T * p<=N * q) (h2:N * S * p<=R * U * q) (h3:R * s<=V * t) (h4:W * u<=S * s):T * W * (p * p * s * u)<=V * U * (q * q * t * s):=by
 have a1:=Nat.mul_le_mul h1 h4
 have a2:=Nat.mul_le_mul_right (q * s) h2
 have a3:=Nat.mul_le_mul_right (U * q * q * s) h3
 have b1:T * p * (W * u) * (p * s)<=N * q * (S * s) * (p * s):=Nat.mul_le_mul_right _ a1
 have b2:N * S * p * (q * s) * s<=R * U * q * (q * s) * s:=Nat.mul_le_mul_right _ a2
 have e1:T * W * (p * p * s * u)=T * p * (W * u) * (p * s):=by ac_rfl
 have e2:N * q * (S * s) * (p * s)=N * S * p * (q * s) * s:=by ac_rfl
 have e3:R * U * q * (q * s) * s=R * s * (U * q * q * s):=by ac_rfl
 have e4:V * t * (U * q * q * s)=V * U * (q * q * t * s):=by ac_rfl
 rw [e1,<-e4]
 rw [e2] at b1
 rw [e3] at b2
 exact Nat.le_trans b1 (Nat.le_trans b2 a3)
theorem chain_dn {T N S R V W U p q s t u:Nat} (h1:N * q<=T * p) (h2:R * U * q<=N * S * p) (h3:V * t<=R * s) (h4:S * s<=W * u):V * U * (t * q * q)<=T * W * (p * p * u):=by
 have b1:V * t * (U * q)<=R * s * (U * q):=Nat.mul_le_mul_right _ h3
 have b2:R * U * q * (s * q)<=N * S * p * (s * q):=Nat.mul_le_mul_right _ h2
 have b3:N * q * (S * s)<=T * p * (W * u):=Nat.mul_le_mul h1 h4
 have g1:V * U * (t * q * q)=V * t * (U * q) * q:=by ac_rfl
 have g2:R * s * (U * q) * q=R * U * q * (s * q):=by ac_rfl
 have g3:N * S * p * (s * q)=N * q * (S * s) * p:=by ac_rfl
 have g4:T * W * (p * p * u)=T * p * (W * u) * p:=by ac_rfl
 rw [g1,g4]
 refine Nat.le_trans (Nat.mul_le_mul_right _ b1) ?_
 rw [g2]
 refine Nat.le_trans b2 ?_
 rw [g3]
 exact Nat.mul_le_mul_right _ b3
theorem cancel_up {X Y w U k l:Nat} (hU:0 < U) (h:X * (w * U) * k<=Y * U * U * l):X * w * k<=Y * U * l:=by
 have b1:X * w * k * U=X * (w * U) * k:=by ac_rfl
 have b2:Y * U * l * U=Y * U * U * l:=by ac_rfl
 exact Nat.le_of_mul_le_mul_right (by rw [b1,b2]; exact h) hU
theorem cancel_dn {X Y w U k l:Nat} (hU:0 < U) (h:Y * U * U * k<=X * (w * U) * l):Y * U * k<=X * w * l:=by
 have b1:X * w * l * U=X * (w * U) * l:=by ac_rfl
 have b2:Y * U * k * U=Y * U * U * k:=by ac_rfl
 exact Nat.le_of_mul_le_mul_right (by rw [b1,b2]; exact h) hU
theorem chain_end {X Y k l:Nat} (h:X * k<=Y * l) (hk:0 < k) (hl:l * 2 ^ 40<=k * (2 ^ 40+1)):X * 2 ^ 40<=Y * (2 ^ 40+1):=by
 have h1:X * k * 2 ^ 40<=Y * l * 2 ^ 40:=Nat.mul_le_mul_right _ h
 have h2:Y * (l * 2 ^ 40)<=Y * (k * (2 ^ 40+1)):=Nat.mul_le_mul_left _ hl
 rw [<-Nat.mul_assoc] at h2
 have h3:X * 2 ^ 40 * k<=Y * (2 ^ 40+1) * k:=by
  rw [Nat.mul_right_comm X,Nat.mul_assoc Y,Nat.mul_comm (2 ^ 40+1) k]
  exact Nat.le_trans h1 h2
 exact Nat.le_of_mul_le_mul_right h3 hk
theorem lj {T N:Nat} (h:T * 2 ^ 53<=N * 2 ^ 53+N):T * 2 ^ 53<=N * (2 ^ 53+1):=by omega
theorem lk {T N:Nat} (h:N * 2 ^ 53<=T * 2 ^ 53+N):N * (2 ^ 53 - 1)<=T * 2 ^ 53:=by
 rw [Nat.mul_sub,Nat.mul_one]; exact Nat.sub_le_iff_le_add.2 h
theorem ll1 {R V:Nat} (h:R * 2 ^ 60<=V * 2 ^ 60+1024 * V):R * 2 ^ 60<=V * (2 ^ 60+1024):=by
 rw [Nat.mul_add,Nat.mul_comm V 1024]; exact h
theorem ll2 {R V:Nat} (h:V * 2 ^ 60<=R * 2 ^ 60+1024 * V):V * (2 ^ 60 - 1024)<=R * 2 ^ 60:=by
 rw [Nat.mul_sub,Nat.mul_comm V 1024]; exact Nat.sub_le_iff_le_add.2 h
theorem ap_div {x v y w:Nat} (h:Ap 1024 x (v * UU)) (h':Ap 1024 y (w * UU)) (hv:v < 2 ^ 95) (hw:w < 2 ^ 95) (hw0:0 < w):∃ r T,floatBits .quo .f64 x y=some r/\Rd r T/\T * w * 2 ^ 40<=v * UU * (2 ^ 40+1)/\v * UU * 2 ^ 40<=T * w * (2 ^ 40+1):=by
 obtain ⟨R,h1,h2,h3⟩:=h
 obtain ⟨S,g1,g2,g3⟩:=h'
 have hb:=la h2 h3 (Nat.mul_le_mul_right _ (by decide))
 have hb':=la g2 g3 (Nat.mul_le_mul_right _ (by decide))
 have hS:GG<=S:=lb (Nat.le_mul_of_pos_left _ hw0) uu_eq hb'.2
 have hR2:R < UU * 2 ^ 100:=li (z:=0) hb.1 (Nat.mul_le_mul_right _ (Nat.le_of_lt hv)) pos_uu
 have hS2:S < UU * 2 ^ 100:=li (z:=0) hb'.1 (Nat.mul_le_mul_right _ (Nat.le_of_lt hw)) pos_uu
 obtain ⟨r,T,N,e1,e2,⟨e3,e4⟩,e5,e6⟩:=rd_div' h1 g1 (ap_nz hb) hS hR2 hS2
 refine ⟨r,T,e1,e2,?_⟩
 constructor
 ·exact cancel_up pos_uu (chain_end (chain_up (lj e3) (lj e5) (ll1 h2) (ll2 g3)) (by decide) (by decide))
 ·exact cancel_dn pos_uu (chain_end (chain_dn (lk e4) (lk e6) (ll2 h3) (ll1 g2)) (by decide) (by decide))
theorem g_up {g T u X Y q:Nat} (hu:0 < u) (hg:g * u<=T) (h:T * Y * 2 ^ 40<=X * u * (2 ^ 40+1)) (hX:X<=2 ^ 31 * Y) (hq:X < (q+2) * Y):g < q+3:=by
 have h1:g * Y * 2 ^ 40 * u<=X * (2 ^ 40+1) * u:=by
  have e1:g * Y * 2 ^ 40 * u=g * u * (Y * 2 ^ 40):=by ac_rfl
  have e2:X * (2 ^ 40+1) * u=X * u * (2 ^ 40+1):=by ac_rfl
  rw [e1,e2]
  refine Nat.le_trans (Nat.mul_le_mul_right _ hg) ?_
  rw [<-Nat.mul_assoc]; exact h
 have h2:=Nat.le_of_mul_le_mul_right h1 hu
 rw [Nat.mul_add,Nat.mul_one] at h2
 have h3:g * Y<=X+Y:=by omega
 have h4:g * Y < (q+3) * Y:=by rw [show q+3=(q+2)+1 by omega,Nat.add_mul (q+2),Nat.one_mul]; omega
 exact Nat.lt_of_mul_lt_mul_right h4
theorem g_dn {g T u X Y q:Nat} (hu:0 < u) (hY:0 < Y) (hg:T<=(g+1) * u) (h:X * u * 2 ^ 40<=T * Y * (2 ^ 40+1)) (hq:q * Y<=X) (hq2:q < 2 ^ 31):q<=g+1:=by
 have h1:X * 2 ^ 40 * u<=(g+1) * Y * (2 ^ 40+1) * u:=by
  have e1:X * 2 ^ 40 * u=X * u * 2 ^ 40:=by ac_rfl
  have e2:(g+1) * Y * (2 ^ 40+1) * u=(g+1) * u * (Y * (2 ^ 40+1)):=by ac_rfl
  rw [e1,e2]
  refine Nat.le_trans h ?_
  rw [Nat.mul_assoc]
  exact Nat.mul_le_mul_right _ hg
 have h2:=Nat.le_of_mul_le_mul_right h1 hu
 have h3:q * 2 ^ 40 * Y<=(g+1) * (2 ^ 40+1) * Y:=by
  have e1:q * 2 ^ 40 * Y=q * Y * 2 ^ 40:=by ac_rfl
  have e2:(g+1) * (2 ^ 40+1) * Y=(g+1) * Y * (2 ^ 40+1):=by ac_rfl
  rw [e1,e2]
  exact Nat.le_trans (Nat.mul_le_mul_right _ hq) h2
 have h4:=Nat.le_of_mul_le_mul_right h3 hY
 rw [Nat.mul_add,Nat.mul_one] at h4
 omega
theorem top3 {a L:Nat} (h:a < pw (L+3)):a / pw L=(dg a (L+2) * 1000000000+dg a (L+1)) * 1000000000+dg a L:=by
 have h1:=div_pw_succ a L
 have h2:a / pw (L+1)=1000000000 * (a / pw (L+2))+dg a (L+1):=div_pw_succ a (L+1)
 have h3:dg a (L+2)=a / pw (L+2):=dg_top h
 omega
theorem top2 {b L:Nat} (h:b < pw (L+2)):b / pw L=dg b (L+1) * 1000000000+dg b L:=by
 have h1:=div_pw_succ b L
 have h3:dg b (L+1)=b / pw (L+1):=dg_top h
 omega
theorem quo_bounds {a b P X Y:Nat} (hP:0 < P) (hX:a / P=X) (hY:b / P=Y) (hb:1000000000<=Y) (hab:a < b * 1000000000):X<=2 ^ 31 * Y/\X < (a / b+2) * Y/\a / b * Y<=X/\a / b < 1000000000:=by
 have ha1:X * P<=a:=hX ▸ Nat.div_mul_le_self a P
 have ha2:a < (X+1) * P:=by rw [<-hX]; exact Nat.lt_mul_of_div_lt (Nat.lt_succ_self _) hP
 have hb1:Y * P<=b:=hY ▸ Nat.div_mul_le_self b P
 have hb2:b < (Y+1) * P:=by rw [<-hY]; exact Nat.lt_mul_of_div_lt (Nat.lt_succ_self _) hP
 have hb0:0 < b:=by
  have:0 < Y * P:=Nat.mul_pos (by omega) hP
  omega
 have hq:a / b < 1000000000:=by rw [Nat.div_lt_iff_lt_mul hb0,Nat.mul_comm]; exact hab
 have hq1:a / b * b<=a:=Nat.div_mul_le_self a b
 have hq2:a < (a / b+1) * b:=Nat.lt_mul_of_div_lt (Nat.lt_succ_self _) hb0
 generalize a / b=q at *
 refine ⟨?_,?_,?_,hq⟩
 ·have h1:X * P < (Y+1) * 1000000000 * P:=by
   have e:(Y+1) * 1000000000 * P=(Y+1) * P * 1000000000:=by ac_rfl
   rw [e]
   exact Nat.lt_of_le_of_lt ha1 (Nat.lt_trans hab (Nat.mul_lt_mul_of_pos_right hb2 (by decide)))
  have h2:=Nat.lt_of_mul_lt_mul_right h1
  omega
 ·have h1:X * P < (q+1) * (Y+1) * P:=by
   rw [Nat.mul_assoc]
   exact Nat.lt_of_le_of_lt ha1 (Nat.lt_of_lt_of_le hq2 (Nat.mul_le_mul_left _ (Nat.le_of_lt hb2)))
  have h2:=Nat.lt_of_mul_lt_mul_right h1
  have e1:(q+1) * (Y+1)=(q+1) * Y+(q+1):=by rw [Nat.mul_add,Nat.mul_one]
  have e2:(q+2) * Y=(q+1) * Y+Y:=by rw [show q+2=(q+1)+1 by omega,Nat.add_mul (q+1),Nat.one_mul]
  omega
 ·have h1:q * Y * P < (X+1) * P:=by
   rw [Nat.mul_assoc]
   exact Nat.lt_of_le_of_lt (Nat.le_trans (Nat.mul_le_mul_left _ hb1) hq1) ha2
  have h2:=Nat.lt_of_mul_lt_mul_right h1
  omega
theorem ap_up {c d x V:Nat} (h:Ap c x V) (hcd:c<=d):Ap d x V:=by
 obtain ⟨R,h1,h2,h3⟩:=h
 have:=Nat.mul_le_mul_right V hcd
 exact ⟨R,h1,Nat.le_trans h2 (Nat.add_le_add_left this _),Nat.le_trans h3 (Nat.add_le_add_left this _)⟩
theorem lt900 {n:Nat} (h:n < 1000000000):n < 2 ^ 900:=Nat.lt_of_lt_of_le (Nat.lt_trans h (by decide:1000000000 < 2 ^ 30)) (ple (a:=30) (b:=900) (by omega))
theorem b80 {n:Nat} (h:n < 1000000000000000000):n < 2 ^ 80:=Nat.lt_of_lt_of_le h (by decide)
theorem b110 {n:Nat} (h:n < 1000000000000000000000000000):n < 2 ^ 110:=Nat.lt_of_lt_of_le h (by decide)
theorem b95 {n:Nat} (h:n < 1000000000000000000000000000):n < 2 ^ 95:=Nat.lt_of_lt_of_le h (by decide)
theorem b31 {n:Nat} (h:n < 1000000000):n < 2 ^ 31:=Nat.lt_of_lt_of_le h (by decide)
theorem guess_ok {a b L:Nat} (hb:nl b=L+2) (hab:a < b * 1000000000):∃ m2 m2' m1 s1 tp n1 bt q:Nat,∃ g:Nat,
  floatBits .mul .f64 (floatOfInt .f64 (dg a (L+2):Nat)) 4741671816366391296=some m2/\floatBits .mul .f64 m2 4741671816366391296=some m2' ∧
  floatBits .mul .f64 (floatOfInt .f64 (dg a (L+1):Nat)) 4741671816366391296=some m1/\floatBits .add .f64 m2' m1=some s1/\floatBits .add .f64 s1 (floatOfInt .f64 (dg a L:Nat))=some tp ∧
  floatBits .mul .f64 (floatOfInt .f64 (dg b (L+1):Nat)) 4741671816366391296=some n1/\floatBits .add .f64 n1 (floatOfInt .f64 (dg b L:Nat))=some bt ∧
  floatBits .quo .f64 tp bt=some q/\floatToIntVal .f64 q .i64=some (g:Int)/\g<=a / b+3/\a / b<=g+3/\g<=2000000000:=by
 have hlt:=lt_nl b
 rw [hb] at hlt
 have ha3:a < pw (L+3):=by
  have:b * 1000000000 < pw (L+2) * 1000000000:=Nat.mul_lt_mul_of_pos_right hlt (by decide)
  rw [Nat.mul_comm (pw (L+2)),<-pw_succ] at this
  exact Nat.lt_trans hab this
 have hb1:pw (L+1)<=b:=lt_nl_iff.1 (by omega)
 have d2:=dg_lt a (L+2)
 have d1:=dg_lt a (L+1)
 have d0:=dg_lt a L
 have c1:=dg_lt b (L+1)
 have c0:=dg_lt b L
 have hy1:1<=dg b (L+1):=by
  rw [dg_top hlt]
  exact Nat.div_pos hb1 (pw_pos _)
 have hX:=top3 ha3
 have hY:=top2 hlt
 have hq:=quo_bounds (pw_pos L) hX hY (by omega) hab
 clear hX hY hb1 ha3 hlt hab hb
 revert hq
 generalize dg a (L+2)=x2 at *
 generalize dg a (L+1)=x1 at *
 generalize dg a L=x0 at *
 generalize dg b (L+1)=y1 at *
 generalize dg b L=y0 at *
 obtain ⟨m2,e1,p1⟩:=ap_mul (by decide) (ap_conv (lt900 d2)) (b80 (by omega))
 obtain ⟨m2',e2,p2⟩:=ap_mul (by decide) p1 (b80 (by omega))
 obtain ⟨m1,e3,p3⟩:=ap_mul (by decide) (ap_conv (lt900 d1)) (b80 (by omega))
 obtain ⟨s1,e4,p4⟩:=ap_add (by decide) (by decide) p2 p3 (b110 (by omega)) (b110 (by omega))
 obtain ⟨tp,e5,p5⟩:=ap_add (by decide) (by decide) p4 (ap_conv (lt900 d0)) (b110 (by omega)) (b110 (by omega))
 obtain ⟨n1,e6,p6⟩:=ap_mul (by decide) (ap_conv (lt900 c1)) (b80 (by omega))
 obtain ⟨bt,e7,p7⟩:=ap_add (by decide) (by decide) p6 (ap_conv (lt900 c0)) (b110 (by omega)) (b110 (by omega))
 have hXe:x2 * 1000000000 * 1000000000+x1 * 1000000000+x0=(x2 * 1000000000+x1) * 1000000000+x0:=by rw [Nat.add_mul]
 rw [hXe] at p5
 obtain ⟨q,T,e8,p8,t1,t2⟩:=ap_div (ap_up p5 (by decide)) (ap_up p7 (by decide)) (b95 (by omega)) (b95 (by omega)) (by omega)
 rintro ⟨k1,k2,k3,k4⟩
 have hT1:T / UU * UU<=T:=Nat.div_mul_le_self T UU
 have hT2:T<=(T / UU+1) * UU:=Nat.le_of_lt (Nat.lt_mul_of_div_lt (Nat.lt_succ_self _) pos_uu)
 have g1:=g_up pos_uu hT1 t1 k1 k2
 have g2:=g_dn pos_uu (by omega) hT2 t2 k3 (b31 k4)
 generalize a / b=qq at *
 refine ⟨m2,m2',m1,s1,tp,n1,bt,q,T / UU,e1,e2,e3,e4,e5,e6,e7,e8,?_,by omega,by omega,by omega⟩
 unfold floatToIntVal
 have:=rd_toInt p8
 have hd:FloatKind.f64.decode q=double.read q:=rfl
 rw [hd,this]
 simp only
 rw [if_pos]
 have e1:IntKind.i64.min=-9223372036854775808:=by decide
 have e2:IntKind.i64.max=9223372036854775807:=by decide
 rw [e1,e2]
 generalize T / UU=gg at *
 omega
end Go.Proofs.YtaflkgjckmfkoaaGreat.DW

namespace Go.Proofs.YtaflkgjckmfkoaaGreat.DW
open Go.RowKit
attribute [go_sem] cmpL_nat List.headD_cons Tryz.underlying152
theorem cmpN_le {a b:Nat}:cmpN a b<=0 ↔ a<=b:=by unfold cmpN; split<;>(try split)<;>omega
theorem cmpN_lt {a b:Nat}:cmpN a b < 0 ↔ a < b:=by unfold cmpN; split<;>(try split)<;>omega
theorem cmpN_ge {a b:Nat}:0<=cmpN a b ↔ b<=a:=by unfold cmpN; split<;>(try split)<;>omega
theorem nl_small {n:Nat} (h:n < 1000000000):nl n<=1:=nl_iff.2 h
theorem bin_mid {a b q m:Nat} (hb:0 < b) (hq:a / b=q):b * m<=a ↔ m<=q:=by
 rw [<-hq,Nat.le_div_iff_mul_le hb,Nat.mul_comm]
theorem div_lt9 {a b:Nat} (h:a < b * 1000000000):a / b < 1000000000:=by
 rcases Nat.eq_zero_or_pos b with rfl|hb
 ·simp at h
 ·rw [Nat.div_lt_iff_lt_mul hb,Nat.mul_comm]; exact h
theorem digit_fn (a b:Nat) (hb:2<=nl b) (ha:nl a<=50000) (hb2:nl b<=50000) (hab:a < b * 1000000000):Fn Tryz.prog 145 [⟨tInts,natL a⟩,⟨tInts,natL b⟩] false [⟨.int,((a / b:Nat):Int)⟩]:=by
 obtain ⟨L,hL⟩:∃ L,nl b=L+2:=⟨nl b - 2,by omega⟩
 have hb0:0 < b:=Nat.pos_of_ne_zero fun h=>by rw [h,nl_zero] at hb; omega
 have hguess:=guess_ok hL hab
 rw [show L+2=nl b by omega,show L+1=((nl b:Int) - 1).toNat by omega,show L=((nl b:Int) - 2).toNat by omega] at hguess
 obtain ⟨m2,m2',m1,s1,tp,n1,bt,q',g,e1,e2,e3,e4,e5,e6,e7,e8,e9,g1,g2,g3⟩:=hguess
 clear hL
 have hq9:=div_lt9 hab
 generalize hq:a / b=q at *
 have hla:nl a<=nl b+1:=by
  rw [nl_iff,pw_succ]
  have:=lt_nl b
  omega
 have hA:(nl a:Int)<=nl b+1:=by omega
 refine fn_enter tabOK mixes Tryz.func145 rfl rfl _ Tryz.ntmps145 _ Tryz.results145 (by simp) fun hwf=>?_
 try simp (maxSteps:=9^9) only[go_sem,hA]
 repeat refine And.intro (by first|omega|(constructor<;>omega)|kernel_rfl) ?_
 refine CallW.mk (limb_fn (natL a) (nl b) (by omega)) ?_
 try simp (maxSteps:=9^9) only[go_sem]
 refine FloW.mk _ e1 ?_
 try simp (maxSteps:=9^9) only[go_sem]
 refine FloW.mk _ e2 ?_
 try simp (maxSteps:=9^9) only[go_sem]
 repeat refine And.intro (by first|omega|(constructor<;>omega)|kernel_rfl) ?_
 refine CallW.mk (limb_fn (natL a) ((nl b:Int) - 1) (by omega)) ?_
 try simp (maxSteps:=9^9) only[go_sem]
 refine FloW.mk _ e3 ?_
 try simp (maxSteps:=9^9) only[go_sem]
 refine FloW.mk _ e4 ?_
 try simp (maxSteps:=9^9) only[go_sem]
 repeat refine And.intro (by first|omega|(constructor<;>omega)|kernel_rfl) ?_
 refine CallW.mk (limb_fn (natL a) ((nl b:Int) - 2) (by omega)) ?_
 try simp (maxSteps:=9^9) only[go_sem]
 refine FloW.mk _ e5 ?_
 try simp (maxSteps:=9^9) only[go_sem]
 repeat refine And.intro (by first|omega|(constructor<;>omega)|kernel_rfl) ?_
 refine FloW.mk _ e6 ?_
 try simp (maxSteps:=9^9) only[go_sem]
 repeat refine And.intro (by first|omega|(constructor<;>omega)|kernel_rfl) ?_
 refine FloW.mk _ e7 ?_
 try simp (maxSteps:=9^9) only[go_sem]
 repeat refine And.intro (by first|omega|(constructor<;>omega)|kernel_rfl) ?_
 refine FloW.mk _ e8 ?_
 try simp (maxSteps:=9^9) only[go_sem]
 refine FtiW.mk _ e9 (by constructor<;>omega) ?_
 try simp (maxSteps:=9^9) only[go_sem]
 repeat refine And.intro (by first|omega|(constructor<;>omega)|kernel_rfl) ?_
 refine LoopG.intro _ _ _ (fun x:Int × Int=>⟨[(0,.sl .int (natL a)),(1,.sl .int (natL b)),(5,.sc (.int .i64 x.1)),(6,.sc (.int .i64 x.2))],[]⟩) (fun x=>0<=x.1/\x.2<=999999999/\x.1<=q/\q<=x.2) (fun x=>(x.2 - x.1).toNat) (max 0 ((g:Int) - 2000),min 999999999 ((g:Int)+2000)) ?_ ⟨by simp only; omega,by simp only; omega,by simp only; omega,by simp only; omega⟩ ?_
 ·refine Wk.mk [] ?_
  try simp (maxSteps:=9^9) only[go_sem]
  try (and_intros<;>first|rfl|omega|exact ⟨_,rfl⟩)
 ·rintro ⟨lo,hi⟩ ⟨h1,h2,h3,h4⟩
  simp only at h1 h2 h3 h4
  try simp (maxSteps:=9^9) only[go_sem]
  refine CondW_dec (fun hA=>?_) (fun hA=>?_)
  ·try simp (maxSteps:=9^9) only[go_sem]
   repeat refine And.intro (by first|omega|(constructor<;>omega)|kernel_rfl) ?_
   refine QuoW.pos (by omega) (by omega) ?_
   obtain ⟨m,hm⟩:∃ m:Nat,(lo+hi+1) / 2=m:=⟨((lo+hi+1) / 2).toNat,by omega⟩
   rw [hm]
   try simp (maxSteps:=9^9) only[go_sem]
   repeat refine And.intro (by first|omega|(constructor<;>omega)|kernel_rfl) ?_
   refine CallW.mk (implNatOf_fn m) ?_
   try simp (maxSteps:=9^9) only[go_sem]
   repeat refine And.intro (by first|omega|(constructor<;>omega)|kernel_rfl) ?_
   refine CallW.mk (natMul_fn b m (by omega) (Nat.le_trans (nl_small (by omega)) (by omega))) ?_
   try simp (maxSteps:=9^9) only[go_sem]
   repeat refine And.intro (by first|omega|(constructor<;>omega)|kernel_rfl) ?_
   refine CallW.mk (natCmp_fn (natL (b * m)) (natL a)) ?_
   try simp (maxSteps:=9^9) only[go_sem]
   refine CondW_dec (fun hB=>?_) (fun hB=>?_)
   ·rw [cmpN_le,bin_mid hb0 hq] at hB
    try simp (maxSteps:=9^9) only[go_sem]
    refine LoopK.mk (m,hi) ?_ ⟨by simp only; omega,by simp only; omega,by simp only; omega,by simp only; omega⟩ (by simp only; omega)
    refine Wk.mk [] ?_
    try simp (maxSteps:=9^9) only[go_sem]
    try (and_intros<;>first|rfl|omega|exact ⟨_,rfl⟩)
   ·rw [cmpN_le,bin_mid hb0 hq] at hB
    try simp (maxSteps:=9^9) only[go_sem]
    repeat refine And.intro (by first|omega|(constructor<;>omega)|kernel_rfl) ?_
    refine LoopK.mk (lo,m - 1) ?_ ⟨by simp only; omega,by simp only; omega,by simp only; omega,by simp only; omega⟩ (by simp only; omega)
    refine Wk.mk [] ?_
    try simp (maxSteps:=9^9) only[go_sem]
    try (and_intros<;>first|rfl|omega|exact ⟨_,rfl⟩)
  ·try simp (maxSteps:=9^9) only[go_sem]
   omega
end Go.Proofs.YtaflkgjckmfkoaaGreat.DW

namespace Go.Proofs.YtaflkgjckmfkoaaGreat.DW
open Go.RowKit
theorem ni_set_self {l:List Int} {i:Nat} {d:Int} (h:i < l.length):ni (l.set i d) i=d:=by
 rw [ni_lt (by simpa using h)]; simp
theorem trim_shift (d r:Nat) (h:d < 1000000000):trimL ((d:Int) :: natL r)=natL (r * 1000000000+d):=by
 show trimL ([(d:Int)]++natL r)=_
 rw [trimL_val (lims_app (lims_one (by omega) (by omega)) (lims_natL r)),val_app,val_one,val_natL,Int.toNat_natCast]
 congr 1
 show d+pw 1 * r=_
 rw [pw_one]; omega
theorem trimmed_shift (d r:Nat) (h:d < 1000000000):Fn Tryz.prog 111 [⟨tInts,(d:Int) :: natL r⟩] false [⟨tInts,natL (r * 1000000000+d)⟩]:=by
 have:=trimmed_fn ((d:Int) :: natL r)
 rw [trim_shift d r h] at this
 exact this
theorem nl_shift {r b d:Nat} (hr:r < b) (hd:d < 1000000000):r * 1000000000+d < b * 1000000000/\nl (r * 1000000000+d)<=nl b+1:=by
 refine ⟨by omega,?_⟩
 rw [nl_iff,pw_succ]
 have:=lt_nl b
 omega
theorem dg_one {b:Nat} (h:nl b=1):dg b 0=b:=by
 rw [dg_zero]; exact Nat.mod_eq_of_lt (nl_iff.1 (by omega:nl b<=1))
theorem natDiv_fn (a b:Nat) (hb0:0 < b) (ha:nl a<=40000) (hb:nl b<=40000):Fn Tryz.prog 108 [⟨tInts,natL a⟩,⟨tInts,natL b⟩] false [⟨tInts,natL (a / b)⟩,⟨tInts,natL (a % b)⟩]:=by
 have hbn:nl b ≠ 0:=fun h=>by rw [nl_eq_zero.1 h] at hb0; omega
 refine fn_enter tabOK mixes Tryz.func108 rfl rfl _ Tryz.ntmps108 _ Tryz.results108 (by simp) fun hwf=>?_
 try simp (maxSteps:=9^9) only[go_sem]
 repeat refine And.intro (by first|omega|(constructor<;>omega)|kernel_rfl) ?_
 refine CallW.mk (natCmp_fn (natL a) (natL b)) ?_
 try simp (maxSteps:=9^9) only[go_sem]
 refine CondW_dec (fun hA=>?_) (fun hA=>?_)
 ·rw [cmpN_lt] at hA
  try simp (maxSteps:=9^9) only[go_sem]
  rw [Nat.div_eq_of_lt hA,Nat.mod_eq_of_lt hA,natL_zero]
  exact ⟨rfl,rfl⟩
 ·rw [cmpN_lt] at hA
  try simp (maxSteps:=9^9) only[go_sem]
  refine CondW_dec (fun hB=>?_) (fun hB=>?_)
  ·have h1:nl b=1:=by omega
   have hb9:b < 1000000000:=nl_iff.1 (by omega:nl b<=1)
   try simp (maxSteps:=9^9) only[go_sem,hB]
   rw [dg_one h1]
   repeat refine And.intro (by first|omega|(constructor<;>omega)|kernel_rfl) ?_
   refine CallW.mk (natDivSmall_fn a b hb0 hb9 (by omega)) ?_
   try simp (maxSteps:=9^9) only[go_sem]
   repeat refine And.intro (by first|omega|(constructor<;>omega)|kernel_rfl) ?_
   refine CallW.mk (implNatOf_fn ((a % b:Nat):Int)) ?_
   try simp (maxSteps:=9^9) only[go_sem]
  ·have hb2:2<=nl b:=by omega
   try simp (maxSteps:=9^9) only[go_sem,hB]
   repeat refine And.intro (by first|omega|(constructor<;>omega)|kernel_rfl) ?_
   refine LoopG.intro _ _ _ (fun x:Nat × List Int=>⟨[(0,.sl .int (natL a)),(1,.sl .int (natL b)),(8,.row 0 0),(9,.sl .int (natL (a / pw x.1 % b))),(10,.sc (.int .i64 ((x.1:Int) - 1)))],[(0,.row 3 .int 0 true x.2)]⟩) (fun x=>x.1<=nl a/\lims x.2/\x.2.length=nl a/\val x.2=pw x.1 * (a / pw x.1 / b)) (fun x=>x.1) (nl a,List.replicate (nl a) 0) ?_ ⟨by simp,lims_rep _,by simp,by simp [val_rep,Nat.div_eq_of_lt (lt_nl a)]⟩ ?_
   ·refine Wk.mk [] ?_
    try simp (maxSteps:=9^9) only[go_sem]
    try (and_intros<;>first|rfl|omega|exact ⟨_,rfl⟩)
    all_goals (simp [Nat.div_eq_of_lt (lt_nl a),natL_zero])
   ·rintro ⟨t,out⟩ ⟨h1,h2,h3,h4⟩
    simp only at h1 h2 h3 h4
    try simp (maxSteps:=9^9) only[go_sem]
    refine CondW_dec (fun hC=>?_) (fun hC=>?_)
    ·obtain ⟨i,rfl⟩:∃ i,t=i+1:=⟨t - 1,by omega⟩
     have hd1:=dg_lt a i
     have hml:=Nat.mod_lt (a / pw (i+1)) hb0
     obtain ⟨s1,s2,s3⟩:=small_step (a:=a) (i:=i) hb0
     obtain ⟨s4,s5⟩:=small_set h2 (show i < out.length by omega) s3 h4
     have ei:((i+1:Nat):Int) - 1=i:=by omega
     obtain ⟨hr9,hrl⟩:=nl_shift hml hd1
     have hml2:nl (a / pw (i+1) % b)<=nl b:=nl_mono (Nat.le_of_lt hml)
     try simp (maxSteps:=9^9) only[go_sem,ei]
     repeat refine And.intro (by first|omega|(constructor<;>omega)|kernel_rfl) ?_
     try simp (maxSteps:=9^9) only[go_sem]
     repeat refine And.intro (by first|omega|(constructor<;>omega)|kernel_rfl) ?_
     refine CallW.mk (trimmed_shift (dg a i) (a / pw (i+1) % b) hd1) ?_
     try simp (maxSteps:=9^9) only[go_sem]
     generalize hR:a / pw (i+1) % b * 1000000000+dg a i=R at *
     repeat refine And.intro (by first|omega|(constructor<;>omega)|kernel_rfl) ?_
     refine CallW.mk (natCmp_fn (natL R) (natL b)) ?_
     try simp (maxSteps:=9^9) only[go_sem]
     refine CondW_dec (fun hD=>?_) (fun hD=>?_)
     ·rw [cmpN_ge] at hD
      try simp (maxSteps:=9^9) only[go_sem]
      repeat refine And.intro (by first|omega|(constructor<;>omega)|kernel_rfl) ?_
      refine CallW.mk (digit_fn R b hb2 (by omega) (by omega) hr9) ?_
      try simp (maxSteps:=9^9) only[go_sem]
      repeat refine And.intro (by first|omega|(constructor<;>omega)|kernel_rfl) ?_
      rw [ni_set_self (by omega)]
      repeat refine And.intro (by first|omega|(constructor<;>omega)|kernel_rfl) ?_
      refine CallW.mk (implNatOf_fn ((R / b:Nat):Int)) ?_
      try simp (maxSteps:=9^9) only[go_sem]
      repeat refine And.intro (by first|omega|(constructor<;>omega)|kernel_rfl) ?_
      refine CallW.mk (natMul_fn b (R / b) (by omega) (Nat.le_trans (nl_small s3) (by omega))) ?_
      try simp (maxSteps:=9^9) only[go_sem]
      repeat refine And.intro (by first|omega|(constructor<;>omega)|kernel_rfl) ?_
      refine CallW.mk (natSub_fn R (b * (R / b)) (Nat.mul_div_le R b) (by omega)) ?_
      try simp (maxSteps:=9^9) only[go_sem]
      repeat refine And.intro (by first|omega|(constructor<;>omega)|kernel_rfl) ?_
      refine LoopK.mk (i,out.set i ((R / b:Nat):Int)) ?_ ⟨by simp only; omega,s4,by simp [h3],by simp only; rw [s5,s2]⟩ (by simp only; omega)
      refine Wk.mk [] ?_
      try simp (maxSteps:=9^9) only[go_sem]
      try (and_intros<;>first|rfl|omega|exact ⟨_,rfl⟩)
      all_goals (have e:R - b * (R / b)=R % b:=(by have:=Nat.mod_add_div R b; omega); rw [e,s1])
     ·rw [cmpN_ge] at hD
      try simp (maxSteps:=9^9) only[go_sem]
      repeat refine And.intro (by first|omega|(constructor<;>omega)|kernel_rfl) ?_
      have hq0:R / b=0:=Nat.div_eq_of_lt (by omega)
      rw [hq0] at s2 s5
      refine LoopK.mk (i,out) ?_ ⟨by simp only; omega,h2,by simp [h3],by simp only; rw [h4,s2,pw_succ]; simp only [Nat.add_zero]; ac_rfl⟩ (by simp only; omega)
      refine Wk.mk [] ?_
      try simp (maxSteps:=9^9) only[go_sem]
      try (and_intros<;>first|rfl|omega|exact ⟨_,rfl⟩)
      all_goals (rw [<-s1,Nat.mod_eq_of_lt (by omega)])
    ·have ht:t=0:=by omega
     subst ht
     try simp (maxSteps:=9^9) only[go_sem,hC]
     repeat refine And.intro (by first|omega|(constructor<;>omega)|kernel_rfl) ?_
     refine CallW.mk (trimmed_fn out) ?_
     try simp (maxSteps:=9^9) only[go_sem]
     rw [trimL_val h2,h4,pw_zero,Nat.div_one,Nat.one_mul]
     exact ⟨rfl,rfl⟩
end Go.Proofs.YtaflkgjckmfkoaaGreat.DW

namespace Go.Proofs.YtaflkgjckmfkoaaGreat.DW
open Go.RowKit
theorem natL_one {n:Nat} (h:0 < n) (h2:n < 1000000000):natL n=[(n:Int)]:=by
 rw [natL_pos h,Nat.mod_eq_of_lt h2,Nat.div_eq_of_lt h2,natL_zero]
theorem gcd_step {x y a b:Nat} (h:Nat.gcd x y=Nat.gcd a b):Nat.gcd y (x % y)=Nat.gcd a b:=by
 rw [<-h,Nat.gcd_comm x y,Nat.gcd_rec y x,Nat.gcd_comm]
theorem natGcd_fn (a b:Nat) (ha:nl a<=30000) (hb:nl b<=30000):Fn Tryz.prog 80 [⟨tInts,natL a⟩,⟨tInts,natL b⟩] false [⟨tInts,natL (Nat.gcd a b)⟩]:=by
 refine fn_enter tabOK mixes Tryz.func80 rfl rfl _ Tryz.ntmps80 _ Tryz.results80 (by simp) fun hwf=>?_
 try simp (maxSteps:=9^9) only[go_sem]
 refine LoopG.intro _ _ _ (fun x:Nat × Nat=>⟨[(0,.sl .int (natL x.1)),(1,.sl .int (natL x.2))],[]⟩) (fun x=>Nat.gcd x.1 x.2=Nat.gcd a b/\nl x.1<=30000/\nl x.2<=30000) (fun x=>x.2) (a,b) ?_ ⟨rfl,ha,hb⟩ ?_
 ·refine Wk.mk [] ?_
  try simp (maxSteps:=9^9) only[go_sem]
  try (and_intros<;>first|rfl|omega|exact ⟨_,rfl⟩)
 ·rintro ⟨x,y⟩ ⟨h1,h2,h3⟩
  simp only at h1 h2 h3
  by_cases hA:(1:Int) < (nl y:Nat)
  ·have hy:0 < y:=Nat.pos_of_ne_zero fun h=>by rw [h,nl_zero] at hA; omega
   have hml:=Nat.mod_lt x hy
   have hm2:=nl_mono (Nat.le_of_lt hml)
   try simp (maxSteps:=9^9) only[go_sem,hA]
   repeat refine And.intro (by first|omega|(constructor<;>omega)|kernel_rfl) ?_
   refine CallW.mk (natDiv_fn x y hy (by omega) (by omega)) ?_
   try simp (maxSteps:=9^9) only[go_sem]
   refine LoopK.mk (y,x % y) ?_ ⟨gcd_step h1,h3,by simp only; omega⟩ (by simp only; omega)
   refine Wk.mk [] ?_
   try simp (maxSteps:=9^9) only[go_sem]
   try (and_intros<;>first|rfl|omega|exact ⟨_,rfl⟩)
  ·by_cases hy:y=0
   ·subst hy
    have hB:(nl 0:Int)=0:=by rw [nl_zero]; rfl
    rw [Nat.gcd_zero_right] at h1
    try simp (maxSteps:=9^9) only[go_sem,hA,hB]
    rw [h1]
   ·have hB:¬ (nl y:Int)=0:=by have:=(nl_le y hy).1; omega
    have h4:nl y=1:=by omega
    have hy9:y < 1000000000:=nl_iff.1 (by omega:nl y<=1)
    have hml:=Nat.mod_lt x (Nat.pos_of_ne_zero hy)
    try simp (maxSteps:=9^9) only[go_sem,hA,hB]
    repeat refine And.intro (by first|omega|(constructor<;>omega)|kernel_rfl) ?_
    have hsm:=natDivSmall_fn x y (Nat.pos_of_ne_zero hy) hy9 (by omega)
    rw [<-dg_one h4] at hsm
    repeat refine And.intro (by first|omega|(constructor<;>omega)|kernel_rfl) ?_
    refine CallW.mk (hsm) ?_
    try simp (maxSteps:=9^9) only[go_sem]
    repeat refine And.intro (by first|omega|(constructor<;>omega)|kernel_rfl) ?_
    rw [dg_one h4]
    refine LoopG.intro _ _ _ (fun z:Nat × Nat=>⟨[(8,.sc (.int .i64 z.2)),(9,.sc (.int .i64 z.1))],[]⟩) (fun z=>Nat.gcd z.1 z.2=Nat.gcd a b/\0 < z.1/\z.1 < 1000000000/\z.2 < 1000000000) (fun z=>z.2) (y,x % y) ?_ ⟨gcd_step h1,Nat.pos_of_ne_zero hy,hy9,by simp only; omega⟩ ?_
    ·refine Wk.mk [] ?_
     try simp (maxSteps:=9^9) only[go_sem]
     try (and_intros<;>first|rfl|omega|exact ⟨_,rfl⟩)
    ·rintro ⟨u,v⟩ ⟨g1,g2,g3,g4⟩
     simp only at g1 g2 g3 g4
     try simp (maxSteps:=9^9) only[go_sem]
     refine CondW_dec (fun hC=>?_) (fun hC=>?_)
     ·have hv:0 < v:=by omega
      have hml2:=Nat.mod_lt u hv
      try simp (maxSteps:=9^9) only[go_sem]
      refine RemW.pos (by omega) (by omega) ?_
      try simp (maxSteps:=9^9) only[go_sem]
      repeat refine And.intro (by first|omega|(constructor<;>omega)|kernel_rfl) ?_
      refine LoopK.mk (v,u % v) ?_ ⟨gcd_step g1,hv,g4,by simp only; omega⟩ (by simp only; omega)
      refine Wk.mk [] ?_
      try simp (maxSteps:=9^9) only[go_sem]
      try (and_intros<;>first|rfl|omega|exact ⟨_,rfl⟩)
     ·have hv:v=0:=by omega
      subst hv
      rw [Nat.gcd_zero_right] at g1
      try simp (maxSteps:=9^9) only[go_sem]
      rw [<-g1,natL_one g2 g3]
end Go.Proofs.YtaflkgjckmfkoaaGreat.DW

namespace Go.Proofs.YtaflkgjckmfkoaaGreat.DW
open Go.RowKit
abbrev DB:Type:=Bool × List Int
abbrev DR:Type:=DB × List Int
def bigD (z:Int):DB:=(decide (z < 0),natL z.natAbs)
def bZ:DB:=(false,[])
theorem bigD_zero:bigD 0=bZ:=by simp [bigD,bZ,natL_zero]
theorem bigD_inj {x y:Int} (h:bigD x=bigD y):x=y:=by
 simp only [bigD,Prod.mk.injEq,decide_eq_decide] at h
 have:=natL_inj h.2
 omega
theorem bigD_nat (n:Nat):bigD n=(false,natL n):=by
 rw [bigD,Int.natAbs_natCast,decide_eq_false (by omega)]
def sgn (s:Bool) (n:Nat):Int:=if s then -(n:Int) else n
theorem bigD_sgn (s:Bool) (n:Nat):bigD (sgn s n)=(s && decide (0 < n),natL n):=by
 cases s with
 | false=>simp only [sgn,Bool.false_eq_true,if_false,bigD_nat,Bool.false_and]
 | true =>
  simp only [sgn,if_true,bigD,Int.natAbs_neg,Int.natAbs_natCast,Bool.true_and]
  congr 1
  rw [decide_eq_decide]; omega
theorem sgn_bigD (z:Int):sgn (decide (z < 0)) z.natAbs=z:=by
 unfold sgn; split<;>simp_all<;>omega
def okBP (x:DB):Prop:=okNP x.2/\¬ (x.1=true/\x.2.length=0)
noncomputable def okB (x:DB):Bool:=bdec (okBP x)
theorem okBP_bigD {z:Int}:okBP (bigD z) ↔ nl z.natAbs<=60:=by
 unfold okBP bigD
 simp only [okNP_natL,natL_len_nl,nl_eq_zero,decide_eq_true_eq]
 constructor
 ·exact fun h=>h.1
 ·exact fun h=>⟨h,by omega⟩
theorem okBP_iff {x:DB}:okBP x ↔ ∃ z:Int,x=bigD z/\nl z.natAbs<=60:=by
 constructor
 ·intro h
  obtain ⟨n,e,hn⟩:=okNP_iff.1 h.1
  refine ⟨sgn x.1 n,?_,?_⟩
  ·rw [bigD_sgn]
   obtain ⟨s,l⟩:=x
   simp only at e h ⊢
   subst e
   have h2:=h.2
   simp only [natL_len_nl,nl_eq_zero] at h2
   cases s with
   | false=>rfl
   | true =>
    have:0 < n:=by simp at h2; omega
    simp [this]
  ·have:(sgn x.1 n).natAbs=n:=by unfold sgn; split<;>omega
   rw [this]; exact hn
 ·rintro ⟨z,rfl,h⟩; exact okBP_bigD.2 h
def cmpZ (a b:Int):Int:=if a < b then -1 else if b < a then 1 else 0
def small (q:Rat):Prop:=nl q.num.natAbs<=24/\nl q.den<=24
def ratD (q:Rat):DR:=(bigD q.num,natL q.den)
def rZ:DR:=(bZ,[])
def oD:Option Rat->DR
 | none=>rZ
 | some q=>ratD q
theorem den_pos' (q:Rat):0 < q.den:=Nat.pos_of_ne_zero q.den_nz
theorem ratD_ne (q:Rat):ratD q ≠ rZ:=fun h=>by
 have h2:natL q.den=[]:=congrArg Prod.snd h
 exact q.den_nz (natL_nil.1 h2)
theorem ratD_inj {p q:Rat} (h:ratD p=ratD q):p=q:=by
 simp only [ratD,Prod.mk.injEq] at h
 exact Rat.ext (bigD_inj h.1) (natL_inj h.2)
noncomputable def capR (q:Rat):Option Rat:=@ite _ (small q) (Classical.propDecidable _) (some q) none
theorem capR_s {q:Rat} (h:small q):capR q=some q:=if_pos h
theorem capR_n {q:Rat} (h:¬ small q):capR q=none:=if_neg h
def okO (x:Option Rat):Prop:=∀ q,x=some q->small q
theorem okO_none:okO none:=fun _ h=>by cases h
theorem okO_cap (q:Rat):okO (capR q):=fun p h=>by
 by_cases hs:small q
 ·rw [capR_s hs] at h; injection h with h; exact h ▸ hs
 ·rw [capR_n hs] at h; cases h
noncomputable def rdO (r:DR):Option Rat:=@dite _ (∃ q,small q/\r=ratD q) (Classical.propDecidable _) (fun h=>some (Classical.choose h)) (fun _=>none)
theorem rdO_ratD {q:Rat} (h:small q):rdO (ratD q)=some q:=by
 have he:∃ p,small p/\ratD q=ratD p:=⟨q,h,rfl⟩
 unfold rdO
 rw [dif_pos he]
 exact congrArg some (ratD_inj (Classical.choose_spec he).2.symm)
theorem rdO_oD {x:Option Rat} (h:okO x):rdO (oD x)=x:=by
 cases x with
 | none =>
  unfold rdO
  rw [dif_neg]
  rintro ⟨q,_,hq⟩
  exact ratD_ne q hq.symm
 | some q=>exact rdO_ratD (h q rfl)
theorem rdO_some {r:DR} {q:Rat} (h:rdO r=some q):small q/\r=ratD q:=by
 unfold rdO at h
 split at h
 ·rename_i he
  injection h with h
  rw [<-h]; exact Classical.choose_spec he
 ·cases h
theorem okO_rdO (r:DR):okO (rdO r):=fun q h=>(rdO_some h).1
noncomputable def okR (r:DR):Bool:=(rdO r).isSome
theorem okR_ratD {q:Rat} (h:small q):okR (ratD q)=true:=by rw [okR,rdO_ratD h]; rfl
theorem okR_t {r:DR} (h:okR r=true):∃ q,small q/\r=ratD q/\rdO r=some q:=by
 unfold okR at h
 cases hr:rdO r with
 | none=>rw [hr] at h; cases h
 | some q=>exact ⟨q,(rdO_some hr).1,(rdO_some hr).2,rfl⟩
theorem okR_iff {r:DR}:okR r=true ↔ okBP r.1/\okNP r.2/\r.2 ≠ []/\r.1.2.length<=24/\r.2.length<=24/\Nat.gcd (val r.1.2) (val r.2)=1:=by
 constructor
 ·intro h
  obtain ⟨q,⟨h1,h2⟩,rfl,_⟩:=okR_t h
  simp only [ratD,bigD,natL_len_nl,val_natL]
  refine ⟨okBP_bigD.2 (by omega),okNP_natL.2 (by omega),fun h=>q.den_nz (natL_nil.1 h),h1,h2,q.reduced⟩
 ·rintro ⟨h1,h2,h3,h4,h5,h6⟩
  obtain ⟨z,hz,hzl⟩:=okBP_iff.1 h1
  obtain ⟨n,hn,hnl⟩:=okNP_iff.1 h2
  obtain ⟨x,l⟩:=r
  simp only at hz hn h3 h4 h5 h6
  subst hz hn
  simp only [bigD,natL_len_nl,val_natL] at h4 h5 h6
  have hn0:n ≠ 0:=fun h=>h3 (natL_nil.2 h)
  exact okR_ratD (q:=⟨z,n,hn0,h6⟩) ⟨h4,h5⟩
noncomputable def addO:Option Rat->Option Rat->Option Rat
 | some p,some q=>capR (p+q)
 | _,_=>none
noncomputable def mulO:Option Rat->Option Rat->Option Rat
 | some p,some q=>capR (p * q)
 | _,_=>none
noncomputable def divO:Option Rat->Option Rat->Option Rat
 | some p,some q=>@ite _ (q=0) (Classical.propDecidable _) none (capR (p / q))
 | _,_=>none
def negO:Option Rat->Option Rat
 | some p=>some (-p)
 | none=>none
noncomputable def subO (x y:Option Rat):Option Rat:=addO x (negO y)
noncomputable def cmpQ (p q:Rat):Int:=if p < q then -1 else if q < p then 1 else 0
noncomputable def cmpO:Option Rat->Option Rat->Int
 | some p,some q=>cmpQ p q
 | _,_=>0
noncomputable def sgnO:Option Rat->Int
 | some p=>cmpQ p 0
 | none=>0
theorem okO_add (x y:Option Rat):okO (addO x y):=by
 unfold addO; split
 ·exact okO_cap _
 ·exact okO_none
theorem okO_mul (x y:Option Rat):okO (mulO x y):=by
 unfold mulO; split
 ·exact okO_cap _
 ·exact okO_none
theorem small_neg {q:Rat} (h:small q):small (-q):=by
 unfold small at *
 rw [Rat.neg_num,Rat.neg_den,Int.natAbs_neg]; exact h
theorem okO_neg {x:Option Rat} (h:okO x):okO (negO x):=by
 cases x with
 | none=>exact okO_none
 | some q=>intro p hp; injection hp with hp; subst hp; exact small_neg (h q rfl)
theorem okO_sub (x y:Option Rat):okO (subO x y):=okO_add _ _
theorem mk_parts {z:Int} {n:Nat} (hn:n ≠ 0):(_root_.mkRat z n).num=z / (Nat.gcd z.natAbs n:Nat)/\(_root_.mkRat z n).den=n / Nat.gcd z.natAbs n:=by
 rw [Rat.num_mkRat,Rat.den_mkRat,if_neg hn,if_neg hn,Nat.gcd_comm]; exact ⟨rfl,rfl⟩
theorem add_mk (p q:Rat):p+q=_root_.mkRat (p.num * q.den+q.num * p.den) (p.den * q.den):=by
 have h:=Rat.mkRat_add_mkRat p.num q.num p.den_nz q.den_nz
 rw [Rat.mkRat_self,Rat.mkRat_self] at h; exact h
theorem mul_mk (p q:Rat):p * q=_root_.mkRat (p.num * q.num) (p.den * q.den):=by
 have h:=Rat.mkRat_mul_mkRat p.num q.num p.den q.den
 rw [Rat.mkRat_self,Rat.mkRat_self] at h; exact h
theorem cmpQ_eq (p q:Rat):cmpQ p q=cmpZ (p.num * q.den) (q.num * p.den):=by
 unfold cmpQ cmpZ
 simp only [Rat.lt_iff]
theorem mk_abs {z:Int} {n:Nat} (hn:n ≠ 0):(_root_.mkRat z n).num.natAbs=z.natAbs / Nat.gcd z.natAbs n/\(_root_.mkRat z n).den=n / Nat.gcd z.natAbs n/\decide ((_root_.mkRat z n).num < 0)=decide (z < 0):=by
 obtain ⟨h1,h2⟩:=mk_parts (z:=z) hn
 have hg:0 < Nat.gcd z.natAbs n:=Nat.gcd_pos_of_pos_right _ (Nat.pos_of_ne_zero hn)
 have hd:Nat.gcd z.natAbs n ∣ z.natAbs:=Nat.gcd_dvd_left ..
 rw [h1,h2]
 generalize Nat.gcd z.natAbs n=g at *
 obtain ⟨k,hk⟩:=hd
 have hk2:z.natAbs / g=k:=by rw [hk,Nat.mul_div_cancel_left _ hg]
 have hz:z=sgn (decide (z < 0)) z.natAbs:=(sgn_bigD z).symm
 have hgz:z / (g:Int)=sgn (decide (z < 0)) k:=by
  have hg':(g:Int) ≠ 0:=by omega
  have e:z=(g:Int) * sgn (decide (z < 0)) k:=by
   rw [hk] at hz
   by_cases h:z < 0
   ·simp only [sgn,h,decide_true,if_true,Int.natCast_mul] at hz ⊢
    rw [Int.mul_neg]; exact hz
   ·simp only [sgn,h,decide_false,Bool.false_eq_true,if_false,Int.natCast_mul] at hz ⊢
    exact hz
  conv=>lhs; rw [e]
  exact Int.mul_ediv_cancel_left _ hg'
 rw [hgz,hk2]
 refine ⟨by unfold sgn; split<;>omega,rfl,?_⟩
 rw [decide_eq_decide]
 unfold sgn
 by_cases h:z < 0
 ·have hkp:0 < k:=by
   rcases Nat.eq_zero_or_pos k with h0|h0
   ·rw [h0,Nat.mul_zero] at hk; omega
   ·exact h0
  simp [h]; omega
 ·simp [h]
end Go.Proofs.YtaflkgjckmfkoaaGreat.DW

namespace Go.Proofs.YtaflkgjckmfkoaaGreat.DW
open Go.RowKit
attribute [go_sem] bigD
theorem nlpos {n:Nat}:(0:Int) < (nl n:Nat) ↔ 0 < n:=by
 by_cases h:n=0
 ·subst h; rw [nl_zero]; simp
 ·have:=(nl_le n h).1; omega
theorem sgn_mul (x y:Int):sgn (!(decide (x < 0) == decide (y < 0))) (x.natAbs * y.natAbs)=x * y:=by
 unfold sgn
 rw [Int.natCast_mul]
 by_cases hx:x < 0<;>by_cases hy:y < 0<;>simp only [hx,hy,decide_true,decide_false,beq_self_eq_true,Bool.not_true,Bool.false_eq_true,if_false,Bool.not_false,if_true,beq_iff_eq,reduceCtorEq]
 ·rw [show (x.natAbs:Int)=-x by omega,show (y.natAbs:Int)=-y by omega,Int.neg_mul_neg]
 ·have e:(!(true == false))=true:=rfl
  rw [e,if_pos rfl,show (x.natAbs:Int)=-x by omega,show (y.natAbs:Int)=y by omega,Int.neg_mul,Int.neg_neg]
 ·have e:(!(false == true))=true:=rfl
  rw [e,if_pos rfl,show (x.natAbs:Int)=x by omega,show (y.natAbs:Int)=-y by omega,Int.mul_neg,Int.neg_neg]
 ·rw [show (x.natAbs:Int)=x by omega,show (y.natAbs:Int)=y by omega]
theorem cmpZ_nn {x y:Int} (hx:x < 0) (hy:y < 0):cmpN y.natAbs x.natAbs=cmpZ x y:=by
 unfold cmpN cmpZ
 by_cases h1:x < y
 ·rw [if_pos (by omega),if_pos h1]
 ·by_cases h2:y < x
  ·rw [if_neg (by omega),if_pos (by omega),if_neg h1,if_pos h2]
  ·rw [if_neg (by omega),if_neg (by omega),if_neg h1,if_neg h2]
theorem cmpZ_pp {x y:Int} (hx:¬ x < 0) (hy:¬ y < 0):cmpN x.natAbs y.natAbs=cmpZ x y:=by
 unfold cmpN cmpZ
 by_cases h1:x < y
 ·rw [if_pos (by omega),if_pos h1]
 ·by_cases h2:y < x
  ·rw [if_neg (by omega),if_pos (by omega),if_neg h1,if_pos h2]
  ·rw [if_neg (by omega),if_neg (by omega),if_neg h1,if_neg h2]
theorem cmpZ_np {x y:Int} (hx:x < 0) (hy:¬ y < 0):cmpZ x y=-1:=by unfold cmpZ; rw [if_pos (by omega)]
theorem cmpZ_pn {x y:Int} (hx:¬ x < 0) (hy:y < 0):cmpZ x y=1:=by unfold cmpZ; rw [if_neg (by omega),if_pos (by omega)]
theorem clone_fn (l:List Int) (hl:l.length<=16777216):Fn Tryz.prog 81 [⟨tInts,l⟩] true [⟨tInts,l⟩]:=by
 refine fn_enter tabOK mixes Tryz.func81 rfl rfl _ Tryz.ntmps81 _ Tryz.results81 (by simp) fun hwf=>?_
 try simp (maxSteps:=9^9) only[go_sem]
 refine NilW.eq ?_
 try simp (maxSteps:=9^9) only[go_sem]
 refine CondW_nb (fun h=>?_) (fun h=>?_)
 ·try simp (maxSteps:=9^9) only[go_sem,h]
 ·try simp (maxSteps:=9^9) only[go_sem]
  repeat refine And.intro (by first|omega|(constructor<;>omega)|kernel_rfl) ?_
  try simp (maxSteps:=9^9) only[go_sem]
  omega
theorem bigMake_fn (s:Bool) (n:Nat):Fn Tryz.prog 69 [⟨.bool,s⟩,⟨tInts,natL n⟩] false [⟨tBig,bigD (sgn s n)⟩]:=by
 rw [bigD_sgn]
 cases s
 ·refine fn_enter tabOK mixes Tryz.func69 rfl rfl _ Tryz.ntmps69 _ Tryz.results69 (by simp) fun hwf=>?_
  try simp (maxSteps:=9^9) only[go_sem]
 ·refine fn_enter tabOK mixes Tryz.func69 rfl rfl _ Tryz.ntmps69 _ Tryz.results69 (by simp) fun hwf=>?_
  try simp (maxSteps:=9^9) only[go_sem]
  simp only [nlpos]
theorem bigMake_to {s:Bool} {n:Nat} {z:Int} (h:sgn s n=z):Fn Tryz.prog 69 [⟨.bool,s⟩,⟨tInts,natL n⟩] false [⟨tBig,bigD z⟩]:=h ▸ bigMake_fn s n
theorem bigNeg_fn (z:Int):Fn Tryz.prog 114 [⟨tBig,bigD z⟩] false [⟨tBig,bigD (-z)⟩]:=by
 refine fn_enter tabOK mixes Tryz.func114 rfl rfl _ Tryz.ntmps114 _ Tryz.results114 (by simp) fun hwf=>?_
 try simp (maxSteps:=9^9) only[go_sem]
 repeat refine And.intro (by first|omega|(constructor<;>omega)|kernel_rfl) ?_
 refine CallW.mk (bigMake_to (s:=!decide (z < 0)) (n:=z.natAbs) (z:=-z) (by unfold sgn; by_cases h:z < 0<;>simp [h]<;>omega)) ?_
 try simp (maxSteps:=9^9) only[go_sem]
theorem bigAdd_fn (x y:Int) (hx:nl x.natAbs<=10000) (hy:nl y.natAbs<=10000):Fn Tryz.prog 76 [⟨tBig,bigD x⟩,⟨tBig,bigD y⟩] false [⟨tBig,bigD (x+y)⟩]:=by
 refine fn_enter tabOK mixes Tryz.func76 rfl rfl _ Tryz.ntmps76 _ Tryz.results76 (by simp) fun hwf=>?_
 try simp (maxSteps:=9^9) only[go_sem]
 refine CondW_b (fun h=>?_) (fun h=>?_)
 ·have hs:decide (x < 0)=decide (y < 0):=by simpa using h
  try simp (maxSteps:=9^9) only[go_sem]
  repeat refine And.intro (by first|omega|(constructor<;>omega)|kernel_rfl) ?_
  refine CallW.mk (natAdd_fn x.natAbs y.natAbs (by omega) (by omega)) ?_
  try simp (maxSteps:=9^9) only[go_sem]
  repeat refine And.intro (by first|omega|(constructor<;>omega)|kernel_rfl) ?_
  refine CallW.mk (bigMake_to (s:=decide (x < 0)) (n:=x.natAbs+y.natAbs) (z:=x+y) (by unfold sgn; by_cases h:x < 0<;>by_cases h2:y < 0<;>simp [h,h2] at hs ⊢<;>omega)) ?_
  try simp (maxSteps:=9^9) only[go_sem]
  kernel_rfl
 ·have hs:decide (x < 0) ≠ decide (y < 0):=by simpa using h
  try simp (maxSteps:=9^9) only[go_sem]
  repeat refine And.intro (by first|omega|(constructor<;>omega)|kernel_rfl) ?_
  refine CallW.mk (natCmp_fn (natL x.natAbs) (natL y.natAbs)) ?_
  try simp (maxSteps:=9^9) only[go_sem]
  refine CondW_dec (fun hc=>?_) (fun hc=>?_)
  ·rw [cmpN_ge] at hc
   try simp (maxSteps:=9^9) only[go_sem]
   repeat refine And.intro (by first|omega|(constructor<;>omega)|kernel_rfl) ?_
   refine CallW.mk (natSub_fn x.natAbs y.natAbs hc (by omega)) ?_
   try simp (maxSteps:=9^9) only[go_sem]
   repeat refine And.intro (by first|omega|(constructor<;>omega)|kernel_rfl) ?_
   refine CallW.mk (bigMake_to (s:=decide (x < 0)) (n:=x.natAbs - y.natAbs) (z:=x+y) (by unfold sgn; by_cases h:x < 0<;>by_cases h2:y < 0<;>simp [h,h2] at hs ⊢<;>omega)) ?_
   try simp (maxSteps:=9^9) only[go_sem]
   kernel_rfl
  ·rw [cmpN_ge] at hc
   try simp (maxSteps:=9^9) only[go_sem]
   repeat refine And.intro (by first|omega|(constructor<;>omega)|kernel_rfl) ?_
   refine CallW.mk (natSub_fn y.natAbs x.natAbs (by omega) (by omega)) ?_
   try simp (maxSteps:=9^9) only[go_sem]
   repeat refine And.intro (by first|omega|(constructor<;>omega)|kernel_rfl) ?_
   refine CallW.mk (bigMake_to (s:=decide (y < 0)) (n:=y.natAbs - x.natAbs) (z:=x+y) (by unfold sgn; by_cases h:x < 0<;>by_cases h2:y < 0<;>simp [h,h2] at hs ⊢<;>omega)) ?_
   try simp (maxSteps:=9^9) only[go_sem]
   kernel_rfl
theorem bigMul_fn (x y:Int) (hx:nl x.natAbs<=10000) (hy:nl y.natAbs<=10000):Fn Tryz.prog 66 [⟨tBig,bigD x⟩,⟨tBig,bigD y⟩] false [⟨tBig,bigD (x * y)⟩]:=by
 refine fn_enter tabOK mixes Tryz.func66 rfl rfl _ Tryz.ntmps66 _ Tryz.results66 (by simp) fun hwf=>?_
 try simp (maxSteps:=9^9) only[go_sem]
 repeat refine And.intro (by first|omega|(constructor<;>omega)|kernel_rfl) ?_
 refine CallW.mk (natMul_fn x.natAbs y.natAbs (by omega) (by omega)) ?_
 try simp (maxSteps:=9^9) only[go_sem]
 repeat refine And.intro (by first|omega|(constructor<;>omega)|kernel_rfl) ?_
 refine CallW.mk (bigMake_to (s:=!(decide (x < 0) == decide (y < 0))) (n:=x.natAbs * y.natAbs) (z:=x * y) (sgn_mul x y)) ?_
 try simp (maxSteps:=9^9) only[go_sem]
 kernel_rfl
theorem bigCmp_fn (x y:Int):Fn Tryz.prog 74 [⟨tBig,bigD x⟩,⟨tBig,bigD y⟩] false [⟨.int,cmpZ x y⟩]:=by
 by_cases hx:x < 0<;>by_cases hy:y < 0
 ·refine fn_enter tabOK mixes Tryz.func74 rfl rfl _ Tryz.ntmps74 _ Tryz.results74 (by simp) fun hwf=>?_
  try simp (maxSteps:=9^9) only[go_sem,hx,hy]
  repeat refine And.intro (by first|omega|(constructor<;>omega)|kernel_rfl) ?_
  refine CallW.mk (natCmp_fn (natL y.natAbs) (natL x.natAbs)) ?_
  try simp (maxSteps:=9^9) only[go_sem]
  exact cmpZ_nn hx hy
 ·refine fn_enter tabOK mixes Tryz.func74 rfl rfl _ Tryz.ntmps74 _ Tryz.results74 (by simp) fun hwf=>?_
  try simp (maxSteps:=9^9) only[go_sem,hx,hy]
  exact (cmpZ_np hx hy).symm
 ·refine fn_enter tabOK mixes Tryz.func74 rfl rfl _ Tryz.ntmps74 _ Tryz.results74 (by simp) fun hwf=>?_
  try simp (maxSteps:=9^9) only[go_sem,hx,hy]
  exact (cmpZ_pn hx hy).symm
 ·refine fn_enter tabOK mixes Tryz.func74 rfl rfl _ Tryz.ntmps74 _ Tryz.results74 (by simp) fun hwf=>?_
  try simp (maxSteps:=9^9) only[go_sem,hx,hy]
  repeat refine And.intro (by first|omega|(constructor<;>omega)|kernel_rfl) ?_
  refine CallW.mk (natCmp_fn (natL x.natAbs) (natL y.natAbs)) ?_
  try simp (maxSteps:=9^9) only[go_sem]
  exact cmpZ_pp hx hy
theorem ownBig_fn (z:Int) (hz:nl z.natAbs<=60):Fn Tryz.prog 109 [⟨tBig,bigD z⟩] true [⟨tBig,bigD z⟩]:=by
 have hA:¬ (60:Int) < nl z.natAbs:=by omega
 refine fn_enter tabOK mixes Tryz.func109 rfl rfl _ Tryz.ntmps109 _ Tryz.results109 (by simp) fun hwf=>?_
 try simp (maxSteps:=9^9) only[go_sem,hA]
 repeat refine And.intro (by first|omega|(constructor<;>omega)|kernel_rfl) ?_
 refine CallW.mk (clone_fn (natL z.natAbs) (by show nl z.natAbs<=16777216; omega)) ?_
 try simp (maxSteps:=9^9) only[go_sem]
 kernel_rfl
theorem okB_eq (s:Bool) (l:List Int):okB (s,l)=(okN l && !(s && decide ((l.length:Int)=0))):=by
 by_cases h1:okNP l
 ·by_cases h2:l.length=0
  ·cases s
   ·rw [okB,bdec_t ⟨h1,fun h=>by cases h.1⟩,okN,bdec_t h1]; rfl
   ·rw [okB,bdec_f fun h=>h.2 ⟨rfl,h2⟩,h2]; simp
  ·rw [okB,bdec_t ⟨h1,fun h=>h2 h.2⟩,okN,bdec_t h1,decide_eq_false (by omega)]; simp
 ·rw [okB,bdec_f fun h=>h1 h.1,okN,bdec_f h1]; rfl
theorem implBigIntOk_fn (x:DB):Fn Tryz.prog 77 [⟨tBig,x⟩] false [⟨.bool,okB x⟩]:=by
 obtain ⟨s,l⟩:=x
 rw [okB_eq]
 cases hN:okN l<;>cases s
 all_goals
  refine fn_enter tabOK mixes Tryz.func77 rfl rfl _ Tryz.ntmps77 _ Tryz.results77 (by simp) fun hwf=>?_
  try simp (maxSteps:=9^9) only[go_sem]
  repeat refine And.intro (by first|omega|(constructor<;>omega)|kernel_rfl) ?_
  refine CallW.mk (implNatOk_fn l) ?_
  try simp (maxSteps:=9^9) only[go_sem]
  try simp (maxSteps:=9^9) only[go_sem,hN]
theorem l02Cap_fn (n:Nat) (hn:nl n<=60):Fn Tryz.prog 169 [⟨tInts,natL n⟩] false [⟨tInts,natL n⟩]:=by
 have hA:¬ (60:Int) < nl n:=by omega
 have ht:=l02Trim_fn (natL n)
 rw [trimL_natL] at ht
 refine fn_enter tabOK mixes Tryz.func169 rfl rfl _ Tryz.ntmps169 _ Tryz.results169 (by simp) fun hwf=>?_
 try simp (maxSteps:=9^9) only[go_sem]
 repeat refine And.intro (by first|omega|(constructor<;>omega)|kernel_rfl) ?_
 refine CallW.mk (ht) ?_
 try simp (maxSteps:=9^9) only[go_sem]
 try simp (maxSteps:=9^9) only[go_sem,hA]
theorem l03Make_fn (s:Bool) (n:Nat) (hn:nl n<=60):Fn Tryz.prog 142 [⟨.bool,s⟩,⟨tInts,natL n⟩] true [⟨tBig,bigD (sgn s n)⟩]:=by
 rw [bigD_sgn]
 cases s
 ·refine fn_enter tabOK mixes Tryz.func142 rfl rfl _ Tryz.ntmps142 _ Tryz.results142 (by simp) fun hwf=>?_
  try simp (maxSteps:=9^9) only[go_sem]
  repeat refine And.intro (by first|omega|(constructor<;>omega)|kernel_rfl) ?_
  refine CallW.mk (l02Cap_fn n hn) ?_
  try simp (maxSteps:=9^9) only[go_sem]
  repeat refine And.intro (by first|omega|(constructor<;>omega)|kernel_rfl) ?_
  omega
 ·refine fn_enter tabOK mixes Tryz.func142 rfl rfl _ Tryz.ntmps142 _ Tryz.results142 (by simp) fun hwf=>?_
  try simp (maxSteps:=9^9) only[go_sem]
  repeat refine And.intro (by first|omega|(constructor<;>omega)|kernel_rfl) ?_
  refine CallW.mk (l02Cap_fn n hn) ?_
  try simp (maxSteps:=9^9) only[go_sem]
  repeat refine And.intro (by first|omega|(constructor<;>omega)|kernel_rfl) ?_
  simp only [nlpos]
theorem l03Make_to {s:Bool} {n:Nat} {z:Int} (h:sgn s n=z) (hn:nl n<=60):Fn Tryz.prog 142 [⟨.bool,s⟩,⟨tInts,natL n⟩] true [⟨tBig,bigD z⟩]:=h ▸ l03Make_fn s n hn
end Go.Proofs.YtaflkgjckmfkoaaGreat.DW

namespace Go.Proofs.YtaflkgjckmfkoaaGreat.DW
open Go.RowKit
@[go_sem] theorem oD_s (q:Rat):oD (some q)=ratD q:=(rfl)
@[go_sem] theorem oD_n:oD none=rZ:=(rfl)
attribute [go_sem] ratD rZ bZ
theorem one_iff {n:Nat}:((nl n:Int)=1/\(dg n 0:Int)=1) ↔ n=1:=by
 constructor
 ·rintro ⟨h1,h2⟩
  have:=dg_one (b:=n) (by omega)
  omega
 ·rintro rfl
  have h:nl 1=1:=by rw [nl_pos (by decide),show 1 / 1000000000=0 from rfl,nl_zero]
  exact ⟨by omega,by have:=dg_one h; omega⟩
theorem isOne_fn (n:Nat):Fn Tryz.prog 79 [⟨tInts,natL n⟩] false [⟨.bool,decide (n=1)⟩]:=by
 by_cases h1:(nl n:Int)=1
 ·have hiff:=@one_iff n
  refine fn_enter tabOK mixes Tryz.func79 rfl rfl _ Tryz.ntmps79 _ Tryz.results79 (by simp) fun hwf=>?_
  try simp (maxSteps:=9^9) only[go_sem,h1]
  repeat refine And.intro (by first|omega|(constructor<;>omega)|kernel_rfl) ?_
  rw [decide_eq_decide]; omega
 ·have hn:n ≠ 1:=fun h=>h1 (one_iff.2 h).1
  refine fn_enter tabOK mixes Tryz.func79 rfl rfl _ Tryz.ntmps79 _ Tryz.results79 (by simp) fun hwf=>?_
  try simp (maxSteps:=9^9) only[go_sem,h1]
  simp [hn]
theorem bool_ext' {a b:Bool} (h:a=true ↔ b=true):a=b:=by cases a<;>cases b<;>simp_all
theorem okB_iff {x:DB}:okB x=true ↔ okBP x:=by
 constructor
 ·intro h; exact Classical.byContradiction fun hn=>by rw [okB,bdec_f hn] at h; cases h
 ·exact fun h=>bdec_t h
theorem okN_iff {l:List Int}:okN l=true ↔ okNP l:=by
 constructor
 ·intro h; exact Classical.byContradiction fun hn=>by rw [okN,bdec_f hn] at h; cases h
 ·exact fun h=>bdec_t h
theorem okR_eq (x:DB) (d:List Int):okR (x,d)=(okB x && okN d && !decide ((d.length:Int)=0) && !decide (24 < (x.2.length:Int)) && !decide (24 < (d.length:Int)) && decide (Nat.gcd (val x.2) (val d)=1)):=by
 apply bool_ext'
 rw [okR_iff]
 simp only [Bool.and_eq_true,okB_iff,okN_iff,Bool.not_eq_true',decide_eq_false_iff_not,decide_eq_true_eq,and_assoc]
 constructor
 ·rintro ⟨h1,h2,h3,h4,h5,h6⟩
  refine ⟨h1,h2,fun h=>h3 (List.eq_nil_of_length_eq_zero (by omega)),by omega,by omega,h6⟩
 ·rintro ⟨h1,h2,h3,h4,h5,h6⟩
  refine ⟨h1,h2,fun h=>h3 (by rw [h]; rfl),by omega,by omega,h6⟩
theorem implRatOk_fn (r:DR):Fn Tryz.prog 41 [⟨tRat,r⟩] false [⟨.bool,okR r⟩]:=by
 obtain ⟨x,d⟩:=r
 rw [okR_eq]
 cases h1:okB x
 ·refine fn_enter tabOK mixes Tryz.func41 rfl rfl _ Tryz.ntmps41 _ Tryz.results41 (by simp) fun hwf=>?_
  try simp (maxSteps:=9^9) only[go_sem]
  repeat refine And.intro (by first|omega|(constructor<;>omega)|kernel_rfl) ?_
  refine CallW.mk (implBigIntOk_fn x) ?_
  try simp (maxSteps:=9^9) only[go_sem]
  try simp (maxSteps:=9^9) only[go_sem,h1]
 cases h2:okN d
 ·refine fn_enter tabOK mixes Tryz.func41 rfl rfl _ Tryz.ntmps41 _ Tryz.results41 (by simp) fun hwf=>?_
  try simp (maxSteps:=9^9) only[go_sem]
  repeat refine And.intro (by first|omega|(constructor<;>omega)|kernel_rfl) ?_
  refine CallW.mk (implBigIntOk_fn x) ?_
  try simp (maxSteps:=9^9) only[go_sem]
  try simp (maxSteps:=9^9) only[go_sem,h1]
  repeat refine And.intro (by first|omega|(constructor<;>omega)|kernel_rfl) ?_
  refine CallW.mk (implNatOk_fn d) ?_
  try simp (maxSteps:=9^9) only[go_sem]
  try simp (maxSteps:=9^9) only[go_sem,h2]
 by_cases h3:(d.length:Int)=0
 ·refine fn_enter tabOK mixes Tryz.func41 rfl rfl _ Tryz.ntmps41 _ Tryz.results41 (by simp) fun hwf=>?_
  try simp (maxSteps:=9^9) only[go_sem]
  repeat refine And.intro (by first|omega|(constructor<;>omega)|kernel_rfl) ?_
  refine CallW.mk (implBigIntOk_fn x) ?_
  try simp (maxSteps:=9^9) only[go_sem]
  try simp (maxSteps:=9^9) only[go_sem,h1]
  repeat refine And.intro (by first|omega|(constructor<;>omega)|kernel_rfl) ?_
  refine CallW.mk (implNatOk_fn d) ?_
  try simp (maxSteps:=9^9) only[go_sem]
  try simp (maxSteps:=9^9) only[go_sem,h2,h3]
 by_cases h4:24 < (x.2.length:Int)
 ·refine fn_enter tabOK mixes Tryz.func41 rfl rfl _ Tryz.ntmps41 _ Tryz.results41 (by simp) fun hwf=>?_
  try simp (maxSteps:=9^9) only[go_sem]
  repeat refine And.intro (by first|omega|(constructor<;>omega)|kernel_rfl) ?_
  refine CallW.mk (implBigIntOk_fn x) ?_
  try simp (maxSteps:=9^9) only[go_sem]
  try simp (maxSteps:=9^9) only[go_sem,h1]
  repeat refine And.intro (by first|omega|(constructor<;>omega)|kernel_rfl) ?_
  refine CallW.mk (implNatOk_fn d) ?_
  try simp (maxSteps:=9^9) only[go_sem]
  try simp (maxSteps:=9^9) only[go_sem,h2,h3,h4]
 by_cases h5:24 < (d.length:Int)
 ·refine fn_enter tabOK mixes Tryz.func41 rfl rfl _ Tryz.ntmps41 _ Tryz.results41 (by simp) fun hwf=>?_
  try simp (maxSteps:=9^9) only[go_sem]
  repeat refine And.intro (by first|omega|(constructor<;>omega)|kernel_rfl) ?_
  refine CallW.mk (implBigIntOk_fn x) ?_
  try simp (maxSteps:=9^9) only[go_sem]
  try simp (maxSteps:=9^9) only[go_sem,h1]
  repeat refine And.intro (by first|omega|(constructor<;>omega)|kernel_rfl) ?_
  refine CallW.mk (implNatOk_fn d) ?_
  try simp (maxSteps:=9^9) only[go_sem]
  try simp (maxSteps:=9^9) only[go_sem,h2,h3,h4,h5]
 obtain ⟨z,rfl,_⟩:=okBP_iff.1 (okB_iff.1 h1)
 obtain ⟨n,rfl,_⟩:=okNP_iff.1 (okN_iff.1 h2)
 have h1':okB (decide (z < 0),natL z.natAbs)=true:=h1
 have h3':¬ (nl n:Int)=0:=h3
 have h4':¬ 24 < (nl z.natAbs:Int):=h4
 have h5':¬ 24 < (nl n:Int):=h5
 have hv:val (bigD z).2=z.natAbs:=val_natL _
 rw [hv,val_natL]
 by_cases hn:n=1
 ·refine fn_enter tabOK mixes Tryz.func41 rfl rfl _ Tryz.ntmps41 _ Tryz.results41 (by simp) fun hwf=>?_
  try simp (maxSteps:=9^9) only[go_sem]
  repeat refine And.intro (by first|omega|(constructor<;>omega)|kernel_rfl) ?_
  refine CallW.mk (implBigIntOk_fn (bigD z)) ?_
  try simp (maxSteps:=9^9) only[go_sem]
  try simp (maxSteps:=9^9) only[go_sem,h1']
  repeat refine And.intro (by first|omega|(constructor<;>omega)|kernel_rfl) ?_
  refine CallW.mk (implNatOk_fn (natL n)) ?_
  try simp (maxSteps:=9^9) only[go_sem]
  try simp (maxSteps:=9^9) only[go_sem,h2,h3',h4',h5']
  repeat refine And.intro (by first|omega|(constructor<;>omega)|kernel_rfl) ?_
  refine CallW.mk (isOne_fn n) ?_
  try simp (maxSteps:=9^9) only[go_sem]
  try simp (maxSteps:=9^9) only[go_sem,hn]
  simp
 ·refine fn_enter tabOK mixes Tryz.func41 rfl rfl _ Tryz.ntmps41 _ Tryz.results41 (by simp) fun hwf=>?_
  try simp (maxSteps:=9^9) only[go_sem]
  repeat refine And.intro (by first|omega|(constructor<;>omega)|kernel_rfl) ?_
  refine CallW.mk (implBigIntOk_fn (bigD z)) ?_
  try simp (maxSteps:=9^9) only[go_sem]
  try simp (maxSteps:=9^9) only[go_sem,h1']
  repeat refine And.intro (by first|omega|(constructor<;>omega)|kernel_rfl) ?_
  refine CallW.mk (implNatOk_fn (natL n)) ?_
  try simp (maxSteps:=9^9) only[go_sem]
  try simp (maxSteps:=9^9) only[go_sem,h2,h3',h4',h5']
  repeat refine And.intro (by first|omega|(constructor<;>omega)|kernel_rfl) ?_
  refine CallW.mk (isOne_fn n) ?_
  try simp (maxSteps:=9^9) only[go_sem]
  try simp (maxSteps:=9^9) only[go_sem,hn]
  repeat refine And.intro (by first|omega|(constructor<;>omega)|kernel_rfl) ?_
  refine CallW.mk (natGcd_fn z.natAbs n (by omega) (by omega)) ?_
  try simp (maxSteps:=9^9) only[go_sem]
  repeat refine And.intro (by first|omega|(constructor<;>omega)|kernel_rfl) ?_
  refine CallW.mk (isOne_fn (Nat.gcd z.natAbs n)) ?_
  try simp (maxSteps:=9^9) only[go_sem]
theorem isGood_fn (x:Option Rat):Fn Tryz.prog 39 [⟨tRat,oD x⟩] false [⟨.bool,x.isSome⟩]:=by
 cases x with
 | none =>
  refine fn_enter tabOK mixes Tryz.func39 rfl rfl _ Tryz.ntmps39 _ Tryz.results39 (by simp) fun hwf=>?_
  try simp (maxSteps:=9^9) only[go_sem]
  rfl
 | some q =>
  have h:(0:Int) < nl q.den:=nlpos.2 (den_pos' q)
  refine fn_enter tabOK mixes Tryz.func39 rfl rfl _ Tryz.ntmps39 _ Tryz.results39 (by simp) fun hwf=>?_
  try simp (maxSteps:=9^9) only[go_sem,h]
end Go.Proofs.YtaflkgjckmfkoaaGreat.DW

namespace Go.Proofs.YtaflkgjckmfkoaaGreat.DW
open Go.RowKit
theorem capR_data {q:Rat} (h:small q):oD (capR q)=((decide (q.num < 0),natL q.num.natAbs),natL q.den):=by rw [capR_s h]; rfl
theorem capR_none {q:Rat} (h:¬ small q):oD (capR q)=((false,[]),[]):=by rw [capR_n h]; rfl
theorem bigMulN_fn (x:Int) (n:Nat) (hx:nl x.natAbs<=10000) (hy:nl n<=10000):Fn Tryz.prog 66 [⟨tBig,bigD x⟩,⟨tBig,(false,natL n)⟩] false [⟨tBig,bigD (x * n)⟩]:=by
 have:=bigMul_fn x n hx (by simpa using hy)
 rw [bigD_nat] at this
 exact this
theorem ratMake_end (z:Int) (n:Nat) (hn:n ≠ 0) (hz:nl z.natAbs<=10000) (hnl:nl n<=10000):Fn Tryz.prog 65 [⟨tBig,bigD z⟩,⟨tInts,natL n⟩] true [⟨tRat,oD (capR (_root_.mkRat z n))⟩]:=by
 obtain ⟨m1,m2,m3⟩:=mk_abs (z:=z) hn
 generalize hq:_root_.mkRat z n=q at *
 have hg0:0 < Nat.gcd z.natAbs n:=Nat.gcd_pos_of_pos_right _ (Nat.pos_of_ne_zero hn)
 have hl1:=nl_mono (Nat.div_le_self z.natAbs (Nat.gcd z.natAbs n))
 have hl2:=nl_mono (Nat.div_le_self n (Nat.gcd z.natAbs n))
 have hl3:=nl_mono (Nat.gcd_le_right z.natAbs (Nat.pos_of_ne_zero hn))
 rw [<-m1] at hl1
 rw [<-m2] at hl2
 have hpath:(decide (n=1)=true/\z.natAbs=q.num.natAbs/\n=q.den)\/(decide (n=1)=false/\decide (Nat.gcd z.natAbs n=1)=true/\z.natAbs=q.num.natAbs/\n=q.den)\/(decide (n=1)=false/\decide (Nat.gcd z.natAbs n=1)=false):=by
  by_cases h1:n=1
  ·refine .inl ⟨decide_eq_true h1,?_,?_⟩
   ·rw [m1,h1,Nat.gcd_one_right,Nat.div_one]
   ·rw [m2,h1,Nat.gcd_one_right,Nat.div_one]
  ·by_cases h2:Nat.gcd z.natAbs n=1
   ·exact .inr (.inl ⟨decide_eq_false h1,decide_eq_true h2,by rw [m1,h2,Nat.div_one],by rw [m2,h2,Nat.div_one]⟩)
   ·exact .inr (.inr ⟨decide_eq_false h1,decide_eq_false h2⟩)
 have hcn:=clone_fn (natL q.den) (by show nl q.den<=16777216; omega)
 have hob:small q->Fn Tryz.prog 109 [⟨tBig,(decide (z < 0),natL q.num.natAbs)⟩] true [⟨tBig,(decide (z < 0),natL q.num.natAbs)⟩]:=fun hs=>by
  have:=ownBig_fn q.num (by have:=hs.1; omega)
  unfold bigD at this
  rw [m3] at this
  exact this
 have hend:small q\/(24:Int) < nl q.num.natAbs\/(¬ (24:Int) < nl q.num.natAbs/\(24:Int) < nl q.den):=by unfold small; omega
 rcases hpath with ⟨hd,e1,e2⟩|⟨hd,hd2,e1,e2⟩|⟨hd,hd2⟩
 ·rcases hend with hs|hA|⟨hA,hB⟩
  ·rw [capR_data hs,m3]
   have hA:¬ (24:Int) < nl q.num.natAbs:=by have:=hs.1; omega
   have hB:¬ (24:Int) < nl q.den:=by have:=hs.2; omega
   have hob:=hob hs
   rw [<-e1] at hA hob; rw [<-e2] at hB hcn; rw [<-e1,<-e2]
   refine fn_enter tabOK mixes Tryz.func65 rfl rfl _ Tryz.ntmps65 _ Tryz.results65 (by simp) fun hwf=>?_
   try simp (maxSteps:=9^9) only[go_sem]
   repeat refine And.intro (by first|omega|(constructor<;>omega)|kernel_rfl) ?_
   refine CallW.mk (isOne_fn n) ?_
   try simp (maxSteps:=9^9) only[go_sem]
   try simp (maxSteps:=9^9) only[go_sem,hd,hA,hB]
   repeat refine And.intro (by first|omega|(constructor<;>omega)|kernel_rfl) ?_
   refine CallW.mk (hob) ?_
   try simp (maxSteps:=9^9) only[go_sem]
   repeat refine And.intro (by first|omega|(constructor<;>omega)|kernel_rfl) ?_
   refine CallW.mk (hcn) ?_
   try simp (maxSteps:=9^9) only[go_sem]
  ·rw [capR_none (by unfold small; omega)]
   rw [<-e1] at hA
   refine fn_enter tabOK mixes Tryz.func65 rfl rfl _ Tryz.ntmps65 _ Tryz.results65 (by simp) fun hwf=>?_
   try simp (maxSteps:=9^9) only[go_sem]
   repeat refine And.intro (by first|omega|(constructor<;>omega)|kernel_rfl) ?_
   refine CallW.mk (isOne_fn n) ?_
   try simp (maxSteps:=9^9) only[go_sem]
   try simp (maxSteps:=9^9) only[go_sem,hd,hA]
  ·rw [capR_none (by unfold small; omega)]
   rw [<-e1] at hA; rw [<-e2] at hB
   refine fn_enter tabOK mixes Tryz.func65 rfl rfl _ Tryz.ntmps65 _ Tryz.results65 (by simp) fun hwf=>?_
   try simp (maxSteps:=9^9) only[go_sem]
   repeat refine And.intro (by first|omega|(constructor<;>omega)|kernel_rfl) ?_
   refine CallW.mk (isOne_fn n) ?_
   try simp (maxSteps:=9^9) only[go_sem]
   try simp (maxSteps:=9^9) only[go_sem,hd,hA,hB]
 ·rcases hend with hs|hA|⟨hA,hB⟩
  ·rw [capR_data hs,m3]
   have hA:¬ (24:Int) < nl q.num.natAbs:=by have:=hs.1; omega
   have hB:¬ (24:Int) < nl q.den:=by have:=hs.2; omega
   have hob:=hob hs
   rw [<-e1] at hA hob; rw [<-e2] at hB hcn; rw [<-e1,<-e2]
   refine fn_enter tabOK mixes Tryz.func65 rfl rfl _ Tryz.ntmps65 _ Tryz.results65 (by simp) fun hwf=>?_
   try simp (maxSteps:=9^9) only[go_sem]
   repeat refine And.intro (by first|omega|(constructor<;>omega)|kernel_rfl) ?_
   refine CallW.mk (isOne_fn n) ?_
   try simp (maxSteps:=9^9) only[go_sem]
   try simp (maxSteps:=9^9) only[go_sem,hd]
   repeat refine And.intro (by first|omega|(constructor<;>omega)|kernel_rfl) ?_
   refine CallW.mk (natGcd_fn z.natAbs n (by omega) (by omega)) ?_
   try simp (maxSteps:=9^9) only[go_sem]
   repeat refine And.intro (by first|omega|(constructor<;>omega)|kernel_rfl) ?_
   refine CallW.mk (isOne_fn (Nat.gcd z.natAbs n)) ?_
   try simp (maxSteps:=9^9) only[go_sem]
   try simp (maxSteps:=9^9) only[go_sem,hd2,hA,hB]
   repeat refine And.intro (by first|omega|(constructor<;>omega)|kernel_rfl) ?_
   refine CallW.mk (hob) ?_
   try simp (maxSteps:=9^9) only[go_sem]
   repeat refine And.intro (by first|omega|(constructor<;>omega)|kernel_rfl) ?_
   refine CallW.mk (hcn) ?_
   try simp (maxSteps:=9^9) only[go_sem]
  ·rw [capR_none (by unfold small; omega)]
   rw [<-e1] at hA
   refine fn_enter tabOK mixes Tryz.func65 rfl rfl _ Tryz.ntmps65 _ Tryz.results65 (by simp) fun hwf=>?_
   try simp (maxSteps:=9^9) only[go_sem]
   repeat refine And.intro (by first|omega|(constructor<;>omega)|kernel_rfl) ?_
   refine CallW.mk (isOne_fn n) ?_
   try simp (maxSteps:=9^9) only[go_sem]
   try simp (maxSteps:=9^9) only[go_sem,hd]
   repeat refine And.intro (by first|omega|(constructor<;>omega)|kernel_rfl) ?_
   refine CallW.mk (natGcd_fn z.natAbs n (by omega) (by omega)) ?_
   try simp (maxSteps:=9^9) only[go_sem]
   repeat refine And.intro (by first|omega|(constructor<;>omega)|kernel_rfl) ?_
   refine CallW.mk (isOne_fn (Nat.gcd z.natAbs n)) ?_
   try simp (maxSteps:=9^9) only[go_sem]
   try simp (maxSteps:=9^9) only[go_sem,hd2,hA]
  ·rw [capR_none (by unfold small; omega)]
   rw [<-e1] at hA; rw [<-e2] at hB
   refine fn_enter tabOK mixes Tryz.func65 rfl rfl _ Tryz.ntmps65 _ Tryz.results65 (by simp) fun hwf=>?_
   try simp (maxSteps:=9^9) only[go_sem]
   repeat refine And.intro (by first|omega|(constructor<;>omega)|kernel_rfl) ?_
   refine CallW.mk (isOne_fn n) ?_
   try simp (maxSteps:=9^9) only[go_sem]
   try simp (maxSteps:=9^9) only[go_sem,hd]
   repeat refine And.intro (by first|omega|(constructor<;>omega)|kernel_rfl) ?_
   refine CallW.mk (natGcd_fn z.natAbs n (by omega) (by omega)) ?_
   try simp (maxSteps:=9^9) only[go_sem]
   repeat refine And.intro (by first|omega|(constructor<;>omega)|kernel_rfl) ?_
   refine CallW.mk (isOne_fn (Nat.gcd z.natAbs n)) ?_
   try simp (maxSteps:=9^9) only[go_sem]
   try simp (maxSteps:=9^9) only[go_sem,hd2,hA,hB]
 ·rcases hend with hs|hA|⟨hA,hB⟩
  ·rw [capR_data hs,m3]
   have hA:¬ (24:Int) < nl q.num.natAbs:=by have:=hs.1; omega
   have hB:¬ (24:Int) < nl q.den:=by have:=hs.2; omega
   have hob:=hob hs
   refine fn_enter tabOK mixes Tryz.func65 rfl rfl _ Tryz.ntmps65 _ Tryz.results65 (by simp) fun hwf=>?_
   try simp (maxSteps:=9^9) only[go_sem]
   repeat refine And.intro (by first|omega|(constructor<;>omega)|kernel_rfl) ?_
   refine CallW.mk (isOne_fn n) ?_
   try simp (maxSteps:=9^9) only[go_sem]
   try simp (maxSteps:=9^9) only[go_sem,hd]
   repeat refine And.intro (by first|omega|(constructor<;>omega)|kernel_rfl) ?_
   refine CallW.mk (natGcd_fn z.natAbs n (by omega) (by omega)) ?_
   try simp (maxSteps:=9^9) only[go_sem]
   repeat refine And.intro (by first|omega|(constructor<;>omega)|kernel_rfl) ?_
   refine CallW.mk (isOne_fn (Nat.gcd z.natAbs n)) ?_
   try simp (maxSteps:=9^9) only[go_sem]
   try simp (maxSteps:=9^9) only[go_sem,hd2]
   have c1:=natDiv_fn z.natAbs (Nat.gcd z.natAbs n) hg0 (by omega) (by omega)
   rw [<-m1] at c1
   repeat refine And.intro (by first|omega|(constructor<;>omega)|kernel_rfl) ?_
   refine CallW.mk (c1) ?_
   try simp (maxSteps:=9^9) only[go_sem]
   have c2:=natDiv_fn n (Nat.gcd z.natAbs n) hg0 (by omega) (by omega)
   rw [<-m2] at c2
   repeat refine And.intro (by first|omega|(constructor<;>omega)|kernel_rfl) ?_
   refine CallW.mk (c2) ?_
   try simp (maxSteps:=9^9) only[go_sem]
   try simp (maxSteps:=9^9) only[go_sem,hA,hB]
   repeat refine And.intro (by first|omega|(constructor<;>omega)|kernel_rfl) ?_
   refine CallW.mk (hob) ?_
   try simp (maxSteps:=9^9) only[go_sem]
   repeat refine And.intro (by first|omega|(constructor<;>omega)|kernel_rfl) ?_
   refine CallW.mk (hcn) ?_
   try simp (maxSteps:=9^9) only[go_sem]
  ·rw [capR_none (by unfold small; omega)]
   refine fn_enter tabOK mixes Tryz.func65 rfl rfl _ Tryz.ntmps65 _ Tryz.results65 (by simp) fun hwf=>?_
   try simp (maxSteps:=9^9) only[go_sem]
   repeat refine And.intro (by first|omega|(constructor<;>omega)|kernel_rfl) ?_
   refine CallW.mk (isOne_fn n) ?_
   try simp (maxSteps:=9^9) only[go_sem]
   try simp (maxSteps:=9^9) only[go_sem,hd]
   repeat refine And.intro (by first|omega|(constructor<;>omega)|kernel_rfl) ?_
   refine CallW.mk (natGcd_fn z.natAbs n (by omega) (by omega)) ?_
   try simp (maxSteps:=9^9) only[go_sem]
   repeat refine And.intro (by first|omega|(constructor<;>omega)|kernel_rfl) ?_
   refine CallW.mk (isOne_fn (Nat.gcd z.natAbs n)) ?_
   try simp (maxSteps:=9^9) only[go_sem]
   try simp (maxSteps:=9^9) only[go_sem,hd2]
   have c1:=natDiv_fn z.natAbs (Nat.gcd z.natAbs n) hg0 (by omega) (by omega)
   rw [<-m1] at c1
   repeat refine And.intro (by first|omega|(constructor<;>omega)|kernel_rfl) ?_
   refine CallW.mk (c1) ?_
   try simp (maxSteps:=9^9) only[go_sem]
   have c2:=natDiv_fn n (Nat.gcd z.natAbs n) hg0 (by omega) (by omega)
   rw [<-m2] at c2
   repeat refine And.intro (by first|omega|(constructor<;>omega)|kernel_rfl) ?_
   refine CallW.mk (c2) ?_
   try simp (maxSteps:=9^9) only[go_sem]
   try simp (maxSteps:=9^9) only[go_sem,hA]
  ·rw [capR_none (by unfold small; omega)]
   refine fn_enter tabOK mixes Tryz.func65 rfl rfl _ Tryz.ntmps65 _ Tryz.results65 (by simp) fun hwf=>?_
   try simp (maxSteps:=9^9) only[go_sem]
   repeat refine And.intro (by first|omega|(constructor<;>omega)|kernel_rfl) ?_
   refine CallW.mk (isOne_fn n) ?_
   try simp (maxSteps:=9^9) only[go_sem]
   try simp (maxSteps:=9^9) only[go_sem,hd]
   repeat refine And.intro (by first|omega|(constructor<;>omega)|kernel_rfl) ?_
   refine CallW.mk (natGcd_fn z.natAbs n (by omega) (by omega)) ?_
   try simp (maxSteps:=9^9) only[go_sem]
   repeat refine And.intro (by first|omega|(constructor<;>omega)|kernel_rfl) ?_
   refine CallW.mk (isOne_fn (Nat.gcd z.natAbs n)) ?_
   try simp (maxSteps:=9^9) only[go_sem]
   try simp (maxSteps:=9^9) only[go_sem,hd2]
   have c1:=natDiv_fn z.natAbs (Nat.gcd z.natAbs n) hg0 (by omega) (by omega)
   rw [<-m1] at c1
   repeat refine And.intro (by first|omega|(constructor<;>omega)|kernel_rfl) ?_
   refine CallW.mk (c1) ?_
   try simp (maxSteps:=9^9) only[go_sem]
   have c2:=natDiv_fn n (Nat.gcd z.natAbs n) hg0 (by omega) (by omega)
   rw [<-m2] at c2
   repeat refine And.intro (by first|omega|(constructor<;>omega)|kernel_rfl) ?_
   refine CallW.mk (c2) ?_
   try simp (maxSteps:=9^9) only[go_sem]
   try simp (maxSteps:=9^9) only[go_sem,hA,hB]
theorem sgn_abs (s:Bool) (a:Nat):(sgn s a).natAbs=a:=by unfold sgn; split<;>omega
end Go.Proofs.YtaflkgjckmfkoaaGreat.DW

namespace Go.Proofs.YtaflkgjckmfkoaaGreat.DW
open Go.RowKit
attribute [go_sem] Option.isSome_none bigD_nat
theorem isGood_n:Fn Tryz.prog 39 [⟨tRat,((false,[]),[])⟩] false [⟨.bool,false⟩]:=isGood_fn none
theorem isGood_s (q:Rat):Fn Tryz.prog 39 [⟨tRat,ratD q⟩] false [⟨.bool,true⟩]:=isGood_fn (some q)
theorem ratCmp_fn (x y:Option Rat) (hx:okO x) (hy:okO y):Fn Tryz.prog 36 [⟨tRat,oD x⟩,⟨tRat,oD y⟩] false [⟨.int,cmpO x y⟩]:=by
 cases x with
 | none =>
  refine fn_enter tabOK mixes Tryz.func36 rfl rfl _ Tryz.ntmps36 _ Tryz.results36 (by simp) fun hwf=>?_
  try simp (maxSteps:=9^9) only[go_sem]
  repeat refine And.intro (by first|omega|(constructor<;>omega)|kernel_rfl) ?_
  refine CallW.mk (isGood_n) ?_
  try simp (maxSteps:=9^9) only[go_sem]
  rfl
 | some p =>
  cases y with
  | none =>
   refine fn_enter tabOK mixes Tryz.func36 rfl rfl _ Tryz.ntmps36 _ Tryz.results36 (by simp) fun hwf=>?_
   try simp (maxSteps:=9^9) only[go_sem]
   repeat refine And.intro (by first|omega|(constructor<;>omega)|kernel_rfl) ?_
   refine CallW.mk (isGood_s p) ?_
   try simp (maxSteps:=9^9) only[go_sem]
   repeat refine And.intro (by first|omega|(constructor<;>omega)|kernel_rfl) ?_
   refine CallW.mk (isGood_n) ?_
   try simp (maxSteps:=9^9) only[go_sem]
   rfl
  | some q =>
   obtain ⟨p1,p2⟩:=hx p rfl
   obtain ⟨q1,q2⟩:=hy q rfl
   refine fn_enter tabOK mixes Tryz.func36 rfl rfl _ Tryz.ntmps36 _ Tryz.results36 (by simp) fun hwf=>?_
   try simp (maxSteps:=9^9) only[go_sem]
   repeat refine And.intro (by first|omega|(constructor<;>omega)|kernel_rfl) ?_
   refine CallW.mk (isGood_s p) ?_
   try simp (maxSteps:=9^9) only[go_sem]
   repeat refine And.intro (by first|omega|(constructor<;>omega)|kernel_rfl) ?_
   refine CallW.mk (isGood_s q) ?_
   try simp (maxSteps:=9^9) only[go_sem]
   repeat refine And.intro (by first|omega|(constructor<;>omega)|kernel_rfl) ?_
   refine CallW.mk (bigMulN_fn p.num q.den (by omega) (by omega)) ?_
   try simp (maxSteps:=9^9) only[go_sem]
   repeat refine And.intro (by first|omega|(constructor<;>omega)|kernel_rfl) ?_
   refine CallW.mk (bigMulN_fn q.num p.den (by omega) (by omega)) ?_
   try simp (maxSteps:=9^9) only[go_sem]
   repeat refine And.intro (by first|omega|(constructor<;>omega)|kernel_rfl) ?_
   refine CallW.mk (bigCmp_fn (p.num * q.den) (q.num * p.den)) ?_
   try simp (maxSteps:=9^9) only[go_sem]
   repeat refine And.intro (by first|omega|(constructor<;>omega)|kernel_rfl) ?_
   exact (cmpQ_eq p q).symm
theorem nl_mulZ (a:Int) (n:Nat):nl (a * (n:Int)).natAbs<=nl a.natAbs+nl n:=by
 rw [Int.natAbs_mul,Int.natAbs_natCast]; exact nl_mul _ _
theorem nl_addZ (a b:Int):nl (a+b).natAbs<=max (nl a.natAbs) (nl b.natAbs)+1:=Nat.le_trans (nl_mono (Int.natAbs_add_le a b)) (nl_add _ _)
theorem nl_mulI (a b:Int):nl (a * b).natAbs<=nl a.natAbs+nl b.natAbs:=by
 rw [Int.natAbs_mul]; exact nl_mul _ _
theorem den_mul_ne (p q:Rat):p.den * q.den ≠ 0:=Nat.mul_ne_zero p.den_nz q.den_nz
theorem ratAdd_fn (x y:Option Rat) (hx:okO x) (hy:okO y):Fn Tryz.prog 40 [⟨tRat,oD x⟩,⟨tRat,oD y⟩] true [⟨tRat,oD (addO x y)⟩]:=by
 cases x with
 | none =>
  refine fn_enter tabOK mixes Tryz.func40 rfl rfl _ Tryz.ntmps40 _ Tryz.results40 (by simp) fun hwf=>?_
  try simp (maxSteps:=9^9) only[go_sem]
  repeat refine And.intro (by first|omega|(constructor<;>omega)|kernel_rfl) ?_
  refine CallW.mk (isGood_n) ?_
  try simp (maxSteps:=9^9) only[go_sem]
  try simp (maxSteps:=9^9) only[go_sem,addO]
 | some p =>
  cases y with
  | none =>
   refine fn_enter tabOK mixes Tryz.func40 rfl rfl _ Tryz.ntmps40 _ Tryz.results40 (by simp) fun hwf=>?_
   try simp (maxSteps:=9^9) only[go_sem]
   repeat refine And.intro (by first|omega|(constructor<;>omega)|kernel_rfl) ?_
   refine CallW.mk (isGood_s p) ?_
   try simp (maxSteps:=9^9) only[go_sem]
   repeat refine And.intro (by first|omega|(constructor<;>omega)|kernel_rfl) ?_
   refine CallW.mk (isGood_n) ?_
   try simp (maxSteps:=9^9) only[go_sem]
   try simp (maxSteps:=9^9) only[go_sem,addO]
  | some q =>
   obtain ⟨p1,p2⟩:=hx p rfl
   obtain ⟨q1,q2⟩:=hy q rfl
   have b1:=nl_mulZ p.num q.den
   have b2:=nl_mulZ q.num p.den
   have b3:=nl_addZ (p.num * q.den) (q.num * p.den)
   have b4:=nl_mul p.den q.den
   have hm:=ratMake_end (p.num * q.den+q.num * p.den) (p.den * q.den) (den_mul_ne p q) (by omega) (by omega)
   rw [<-add_mk] at hm
   have e:addO (some p) (some q)=capR (p+q):=rfl
   rw [e]
   refine fn_enter tabOK mixes Tryz.func40 rfl rfl _ Tryz.ntmps40 _ Tryz.results40 (by simp) fun hwf=>?_
   try simp (maxSteps:=9^9) only[go_sem]
   repeat refine And.intro (by first|omega|(constructor<;>omega)|kernel_rfl) ?_
   refine CallW.mk (isGood_s p) ?_
   try simp (maxSteps:=9^9) only[go_sem]
   repeat refine And.intro (by first|omega|(constructor<;>omega)|kernel_rfl) ?_
   refine CallW.mk (isGood_s q) ?_
   try simp (maxSteps:=9^9) only[go_sem]
   repeat refine And.intro (by first|omega|(constructor<;>omega)|kernel_rfl) ?_
   refine CallW.mk (bigMulN_fn p.num q.den (by omega) (by omega)) ?_
   try simp (maxSteps:=9^9) only[go_sem]
   repeat refine And.intro (by first|omega|(constructor<;>omega)|kernel_rfl) ?_
   refine CallW.mk (bigMulN_fn q.num p.den (by omega) (by omega)) ?_
   try simp (maxSteps:=9^9) only[go_sem]
   repeat refine And.intro (by first|omega|(constructor<;>omega)|kernel_rfl) ?_
   refine CallW.mk (bigAdd_fn (p.num * q.den) (q.num * p.den) (by omega) (by omega)) ?_
   try simp (maxSteps:=9^9) only[go_sem]
   repeat refine And.intro (by first|omega|(constructor<;>omega)|kernel_rfl) ?_
   refine CallW.mk (natMul_fn p.den q.den (by omega) (by omega)) ?_
   try simp (maxSteps:=9^9) only[go_sem]
   repeat refine And.intro (by first|omega|(constructor<;>omega)|kernel_rfl) ?_
   refine CallW.mk (hm) ?_
   try simp (maxSteps:=9^9) only[go_sem]
   all_goals repeat refine And.intro (by first|omega|(constructor<;>omega)|kernel_rfl) ?_
   all_goals first|kernel_rfl|omega|rfl
theorem ratNeg_fn (x:Option Rat):Fn Tryz.prog 75 [⟨tRat,oD x⟩] false [⟨tRat,oD (negO x)⟩]:=by
 cases x with
 | none =>
  have hb:=bigNeg_fn 0
  rw [Int.neg_zero,bigD_zero] at hb
  refine fn_enter tabOK mixes Tryz.func75 rfl rfl _ Tryz.ntmps75 _ Tryz.results75 (by simp) fun hwf=>?_
  try simp (maxSteps:=9^9) only[go_sem]
  repeat refine And.intro (by first|omega|(constructor<;>omega)|kernel_rfl) ?_
  refine CallW.mk (hb) ?_
  try simp (maxSteps:=9^9) only[go_sem]
  try simp (maxSteps:=9^9) only[go_sem,negO]
  all_goals repeat refine And.intro (by first|omega|(constructor<;>omega)|kernel_rfl) ?_
  all_goals first|kernel_rfl|omega|rfl
 | some p =>
  refine fn_enter tabOK mixes Tryz.func75 rfl rfl _ Tryz.ntmps75 _ Tryz.results75 (by simp) fun hwf=>?_
  try simp (maxSteps:=9^9) only[go_sem]
  repeat refine And.intro (by first|omega|(constructor<;>omega)|kernel_rfl) ?_
  refine CallW.mk (bigNeg_fn p.num) ?_
  try simp (maxSteps:=9^9) only[go_sem]
  try simp (maxSteps:=9^9) only[go_sem,negO,Rat.neg_num,Rat.neg_den]
  all_goals repeat refine And.intro (by first|omega|(constructor<;>omega)|kernel_rfl) ?_
  all_goals first|kernel_rfl|omega|rfl
theorem ratSub_fn (x y:Option Rat) (hx:okO x) (hy:okO y):Fn Tryz.prog 38 [⟨tRat,oD x⟩,⟨tRat,oD y⟩] true [⟨tRat,oD (subO x y)⟩]:=by
 show Fn _ _ _ _ [⟨tRat,oD (addO x (negO y))⟩]
 have h1:=ratNeg_fn y
 have h2:=ratAdd_fn x (negO y) hx (okO_neg hy)
 refine fn_enter tabOK mixes Tryz.func38 rfl rfl _ Tryz.ntmps38 _ Tryz.results38 (by simp) fun hwf=>?_
 try simp (maxSteps:=9^9) only[go_sem]
 repeat refine And.intro (by first|omega|(constructor<;>omega)|kernel_rfl) ?_
 refine CallW.mk (h1) ?_
 try simp (maxSteps:=9^9) only[go_sem]
 repeat refine And.intro (by first|omega|(constructor<;>omega)|kernel_rfl) ?_
 refine CallW.mk (h2) ?_
 try simp (maxSteps:=9^9) only[go_sem]
 all_goals repeat refine And.intro (by first|omega|(constructor<;>omega)|kernel_rfl) ?_
 all_goals first|kernel_rfl|omega|rfl
theorem cmpQ_zero (p:Rat):cmpQ p 0=cmpZ p.num 0:=by
 rw [cmpQ_eq]
 simp
theorem ratSign_fn (x:Option Rat):Fn Tryz.prog 35 [⟨tRat,oD x⟩] false [⟨.int,sgnO x⟩]:=by
 cases x with
 | none =>
  refine fn_enter tabOK mixes Tryz.func35 rfl rfl _ Tryz.ntmps35 _ Tryz.results35 (by simp) fun hwf=>?_
  try simp (maxSteps:=9^9) only[go_sem]
  repeat refine And.intro (by first|omega|(constructor<;>omega)|kernel_rfl) ?_
  refine CallW.mk (isGood_n) ?_
  try simp (maxSteps:=9^9) only[go_sem]
  try simp (maxSteps:=9^9) only[go_sem,sgnO]
 | some p =>
  have e:sgnO (some p)=cmpZ p.num 0:=cmpQ_zero p
  rw [e]
  by_cases h0:(nl p.num.natAbs:Int)=0
  ·have:p.num=0:=by have:=nl_eq_zero.1 (show nl p.num.natAbs=0 by omega); omega
   refine fn_enter tabOK mixes Tryz.func35 rfl rfl _ Tryz.ntmps35 _ Tryz.results35 (by simp) fun hwf=>?_
   try simp (maxSteps:=9^9) only[go_sem]
   repeat refine And.intro (by first|omega|(constructor<;>omega)|kernel_rfl) ?_
   refine CallW.mk (isGood_s p) ?_
   try simp (maxSteps:=9^9) only[go_sem]
   try simp (maxSteps:=9^9) only[go_sem,h0]
   simp [cmpZ,this]
  ·have h1:p.num ≠ 0:=fun h=>h0 (by rw [h]; simp [nl_zero])
   by_cases h2:p.num < 0
   ·refine fn_enter tabOK mixes Tryz.func35 rfl rfl _ Tryz.ntmps35 _ Tryz.results35 (by simp) fun hwf=>?_
    try simp (maxSteps:=9^9) only[go_sem]
    repeat refine And.intro (by first|omega|(constructor<;>omega)|kernel_rfl) ?_
    refine CallW.mk (isGood_s p) ?_
    try simp (maxSteps:=9^9) only[go_sem]
    try simp (maxSteps:=9^9) only[go_sem,h0,h2]
    simp [cmpZ,h2]
   ·have h3:0 < p.num:=by omega
    refine fn_enter tabOK mixes Tryz.func35 rfl rfl _ Tryz.ntmps35 _ Tryz.results35 (by simp) fun hwf=>?_
    try simp (maxSteps:=9^9) only[go_sem]
    repeat refine And.intro (by first|omega|(constructor<;>omega)|kernel_rfl) ?_
    refine CallW.mk (isGood_s p) ?_
    try simp (maxSteps:=9^9) only[go_sem]
    try simp (maxSteps:=9^9) only[go_sem,h0,h2]
    simp [cmpZ,h2,h3]
noncomputable def maxO:Option Rat->Option Rat->Option Rat
 | some p,some q=>if 0<=cmpQ p q then some p else some q
 | _,_=>none
noncomputable def minO:Option Rat->Option Rat->Option Rat
 | some p,some q=>if cmpQ p q<=0 then some p else some q
 | _,_=>none
theorem okO_max {x y:Option Rat} (hx:okO x) (hy:okO y):okO (maxO x y):=by
 unfold maxO
 split
 ·split
  ·exact hx
  ·exact hy
 ·exact okO_none
theorem okO_min {x y:Option Rat} (hx:okO x) (hy:okO y):okO (minO x y):=by
 unfold minO
 split
 ·split
  ·exact hx
  ·exact hy
 ·exact okO_none
theorem ratMax_fn (x y:Option Rat) (hx:okO x) (hy:okO y):Fn Tryz.prog 112 [⟨tRat,oD x⟩,⟨tRat,oD y⟩] false [⟨tRat,oD (maxO x y)⟩]:=by
 cases x with
 | none =>
  refine fn_enter tabOK mixes Tryz.func112 rfl rfl _ Tryz.ntmps112 _ Tryz.results112 (by simp) fun hwf=>?_
  try simp (maxSteps:=9^9) only[go_sem]
  repeat refine And.intro (by first|omega|(constructor<;>omega)|kernel_rfl) ?_
  refine CallW.mk (isGood_n) ?_
  try simp (maxSteps:=9^9) only[go_sem]
  try simp (maxSteps:=9^9) only[go_sem,maxO]
 | some p =>
  cases y with
  | none =>
   refine fn_enter tabOK mixes Tryz.func112 rfl rfl _ Tryz.ntmps112 _ Tryz.results112 (by simp) fun hwf=>?_
   try simp (maxSteps:=9^9) only[go_sem]
   repeat refine And.intro (by first|omega|(constructor<;>omega)|kernel_rfl) ?_
   refine CallW.mk (isGood_s p) ?_
   try simp (maxSteps:=9^9) only[go_sem]
   repeat refine And.intro (by first|omega|(constructor<;>omega)|kernel_rfl) ?_
   refine CallW.mk (isGood_n) ?_
   try simp (maxSteps:=9^9) only[go_sem]
   try simp (maxSteps:=9^9) only[go_sem,maxO]
  | some q =>
   have hc:=ratCmp_fn (some p) (some q) hx hy
   have e:cmpO (some p) (some q)=cmpQ p q:=rfl
   rw [e] at hc
   by_cases h:0<=cmpQ p q
   ·have e2:maxO (some p) (some q)=some p:=if_pos h
    rw [e2]
    refine fn_enter tabOK mixes Tryz.func112 rfl rfl _ Tryz.ntmps112 _ Tryz.results112 (by simp) fun hwf=>?_
    try simp (maxSteps:=9^9) only[go_sem]
    repeat refine And.intro (by first|omega|(constructor<;>omega)|kernel_rfl) ?_
    refine CallW.mk (isGood_s p) ?_
    try simp (maxSteps:=9^9) only[go_sem]
    repeat refine And.intro (by first|omega|(constructor<;>omega)|kernel_rfl) ?_
    refine CallW.mk (isGood_s q) ?_
    try simp (maxSteps:=9^9) only[go_sem]
    repeat refine And.intro (by first|omega|(constructor<;>omega)|kernel_rfl) ?_
    refine CallW.mk (hc) ?_
    try simp (maxSteps:=9^9) only[go_sem]
    try simp (maxSteps:=9^9) only[go_sem,h]
   ·have e2:maxO (some p) (some q)=some q:=if_neg h
    rw [e2]
    refine fn_enter tabOK mixes Tryz.func112 rfl rfl _ Tryz.ntmps112 _ Tryz.results112 (by simp) fun hwf=>?_
    try simp (maxSteps:=9^9) only[go_sem]
    repeat refine And.intro (by first|omega|(constructor<;>omega)|kernel_rfl) ?_
    refine CallW.mk (isGood_s p) ?_
    try simp (maxSteps:=9^9) only[go_sem]
    repeat refine And.intro (by first|omega|(constructor<;>omega)|kernel_rfl) ?_
    refine CallW.mk (isGood_s q) ?_
    try simp (maxSteps:=9^9) only[go_sem]
    repeat refine And.intro (by first|omega|(constructor<;>omega)|kernel_rfl) ?_
    refine CallW.mk (hc) ?_
    try simp (maxSteps:=9^9) only[go_sem]
    try simp (maxSteps:=9^9) only[go_sem,h]
end Go.Proofs.YtaflkgjckmfkoaaGreat.DW

namespace Go.Proofs.YtaflkgjckmfkoaaGreat.DW
open Go.RowKit
theorem l04Copy_fn (r:DR) (h1:r.1.2.length<=16777216) (h2:r.2.length<=16777216):Fn Tryz.prog 120 [⟨tRat,r⟩] true [⟨tRat,r⟩]:=by
 obtain ⟨⟨s,a⟩,d⟩:=r
 simp only at h1 h2
 refine fn_enter tabOK mixes Tryz.func120 rfl rfl _ Tryz.ntmps120 _ Tryz.results120 (by simp) fun hwf=>?_
 try simp (maxSteps:=9^9) only[go_sem]
 all_goals repeat refine And.intro (by first|omega|(constructor<;>omega)|kernel_rfl) ?_
 all_goals first|kernel_rfl|omega|rfl
theorem natL_1:natL 1=[1]:=natL_one (by decide) (by decide)
end Go.Proofs.YtaflkgjckmfkoaaGreat.DW

namespace Go.Proofs.YtaflkgjckmfkoaaGreat.DW
open Go.RowKit
theorem okR_oD {r:DR} (h:okR r=true):oD (rdO r)=r:=by
 obtain ⟨q,_,e1,e2⟩:=okR_t h
 rw [e2,e1]; rfl
end Go.Proofs.YtaflkgjckmfkoaaGreat.DW

namespace Go.Proofs.YtaflkgjckmfkoaaGreat.DW
open Go.RowKit
attribute [go_sem] Prod.eta
abbrev DP:Type:=DR × DR
noncomputable def okPt (p:DP):Bool:=okR p.1 && okR p.2
theorem implIsValidPoint_fn (p:DP):Fn Tryz.prog 91 [⟨tPoint,p⟩] false [⟨.bool,okPt p⟩]:=by
 cases h:okR p.1
 ·refine fn_enter tabOK mixes Tryz.func91 rfl rfl _ Tryz.ntmps91 _ Tryz.results91 (by simp) fun hwf=>?_
  try simp (maxSteps:=9^9) only[go_sem]
  repeat refine And.intro (by first|omega|(constructor<;>omega)|kernel_rfl) ?_
  refine CallW.mk (implRatOk_fn p.1) ?_
  try simp (maxSteps:=9^9) only[go_sem]
  try simp (maxSteps:=9^9) only[go_sem,h]
  repeat refine And.intro (by first|omega|(constructor<;>omega)|kernel_rfl) ?_
  simp [okPt,h]
 ·refine fn_enter tabOK mixes Tryz.func91 rfl rfl _ Tryz.ntmps91 _ Tryz.results91 (by simp) fun hwf=>?_
  try simp (maxSteps:=9^9) only[go_sem]
  repeat refine And.intro (by first|omega|(constructor<;>omega)|kernel_rfl) ?_
  refine CallW.mk (implRatOk_fn p.1) ?_
  try simp (maxSteps:=9^9) only[go_sem]
  try simp (maxSteps:=9^9) only[go_sem,h]
  repeat refine And.intro (by first|omega|(constructor<;>omega)|kernel_rfl) ?_
  refine CallW.mk (implRatOk_fn p.2) ?_
  try simp (maxSteps:=9^9) only[go_sem]
  repeat refine And.intro (by first|omega|(constructor<;>omega)|kernel_rfl) ?_
  simp [okPt,h]
theorem indexFunc_pt_fn (F:FuncId) (p:DP->Bool) (hF:∀ x:DP,Fn Tryz.prog F [⟨tPoint,x⟩] false [⟨.bool,p x⟩]) (l:List DP):Fn Tryz.prog 126 [⟨.slice tPoint,l⟩,⟨.cst (.fn F),()⟩] false [⟨.int,ixf (t:=tPoint) p l⟩]:=by
 refine fn_enter tabOK mixes Tryz.func126 rfl rfl _ Tryz.ntmps126 _ Tryz.results126 (by simp) fun hwf=>?_
 have hl:l.length<=9223372036854775807:=(hwf ⟨.slice tPoint,l⟩ (by simp)).1
 try simp (maxSteps:=9^9) only[go_sem]
 refine LoopG.intro _ _ _ (fun i:Nat=>⟨[(0,.sl tPoint l),(1,.sc (.func (.func F) #[] #[])),(7,.sc (.int .i64 l.length)),(8,.sc (.int .i64 i))],[]⟩) (fun i=>∀ j < i,j < l.length->p (nth (t:=tPoint) l j)=false) (fun i=>l.length - i) 0 ?_ (fun j h=>by simp at h) ?_
 ·refine Wk.mk [] ?_
  try simp (maxSteps:=9^9) only[go_sem]
  try (and_intros<;>first|rfl|omega|exact ⟨_,rfl⟩)
 ·rintro i h2
  try simp (maxSteps:=9^9) only[go_sem]
  refine CondW_dec (fun h3=>?_) (fun h3=>?_)
  ·try simp (maxSteps:=9^9) only[go_sem]
   repeat refine And.intro (by first|omega|(constructor<;>omega)|kernel_rfl) ?_
   refine CallW.mk (hF (nth (t:=tPoint) l i)) ?_
   try simp (maxSteps:=9^9) only[go_sem]
   refine CondW_b (fun h4=>?_) (fun h4=>?_)
   ·try simp (maxSteps:=9^9) only[go_sem]
    exact (ixf_at (by omega) h4 (fun j hj=>h2 j hj (by omega))).symm
   ·try simp (maxSteps:=9^9) only[go_sem]
    repeat refine And.intro (by first|omega|(constructor<;>omega)|kernel_rfl) ?_
    refine LoopK.mk (i+1) ?_ (fun j hj hl=>?_) (by omega)
    ·refine Wk.mk [] ?_
     try simp (maxSteps:=9^9) only[go_sem]
     try (and_intros<;>first|rfl|omega|exact ⟨_,rfl⟩)
    ·by_cases hj2:j < i
     ·exact h2 j hj2 hl
     ·rw [show j=i by omega]; exact h4
  ·try simp (maxSteps:=9^9) only[go_sem]
   exact (ixf_none fun j hj=>h2 j (by omega) hj).symm
theorem containsFunc_pt_fn (F:FuncId) (p:DP->Bool) (hF:∀ x:DP,Fn Tryz.prog F [⟨tPoint,x⟩] false [⟨.bool,p x⟩]) (l:List DP):Fn Tryz.prog 89 [⟨.slice tPoint,l⟩,⟨.cst (.fn F),()⟩] false [⟨.bool,l.any p⟩]:=by
 refine fn_enter tabOK mixes Tryz.func89 rfl rfl _ Tryz.ntmps89 _ Tryz.results89 (by simp) fun hwf=>?_
 try simp (maxSteps:=9^9) only[go_sem]
 repeat refine And.intro (by first|omega|(constructor<;>omega)|kernel_rfl) ?_
 refine CallW.mk (indexFunc_pt_fn F p hF l) ?_
 try simp (maxSteps:=9^9) only[go_sem]
 exact ixf_any
theorem arePointsC_fn (p:DP):Fn Tryz.prog 90 [⟨tPoint,p⟩] false [⟨.bool,!okPt p⟩]:=by
 refine fn_enter tabOK mixes Tryz.func90 rfl rfl _ Tryz.ntmps90 _ Tryz.results90 (by simp) fun hwf=>?_
 try simp (maxSteps:=9^9) only[go_sem]
 repeat refine And.intro (by first|omega|(constructor<;>omega)|kernel_rfl) ?_
 refine CallW.mk (implIsValidPoint_fn p) ?_
 try simp (maxSteps:=9^9) only[go_sem]
theorem arePoints_fn (l:List DP):Fn Tryz.prog 48 [⟨.slice tPoint,l⟩] false [⟨.bool,!(l.any fun p=>!okPt p)⟩]:=by
 refine fn_enter tabOK mixes Tryz.func48 rfl rfl _ Tryz.ntmps48 _ Tryz.results48 (by simp) fun hwf=>?_
 try simp (maxSteps:=9^9) only[go_sem]
 repeat refine And.intro (by first|omega|(constructor<;>omega)|kernel_rfl) ?_
 refine CallW.mk (containsFunc_pt_fn _ _ arePointsC_fn l) ?_
 try simp (maxSteps:=9^9) only[go_sem]
theorem arePoints2_fn (p q:DP):Fn Tryz.prog 48 [⟨.slice tPoint,[p,q]⟩] false [⟨.bool,okPt p && okPt q⟩]:=by
 have h:=arePoints_fn [p,q]
 have e:(!([p,q].any fun p=>!okPt p))=(okPt p && okPt q):=by simp
 rw [e] at h; exact h
theorem arePoints1_fn (p:DP):Fn Tryz.prog 48 [⟨.slice tPoint,[p]⟩] false [⟨.bool,okPt p⟩]:=by
 have h:=arePoints_fn [p]
 have e:(!([p].any fun p=>!okPt p))=okPt p:=by simp
 rw [e] at h; exact h
end Go.Proofs.YtaflkgjckmfkoaaGreat.DW

namespace Go.Proofs.YtaflkgjckmfkoaaGreat.DW
open Go.RowKit
abbrev DS:Type:=Int × DP
theorem isHeading_fn (n:Int):Fn Tryz.prog 47 [⟨.int,n⟩] false [⟨.bool,decide (0<=n/\n<=3)⟩]:=by
 refine fn_enter tabOK mixes Tryz.func47 rfl rfl _ Tryz.ntmps47 _ Tryz.results47 (by simp) fun hwf=>?_
 try simp (maxSteps:=9^9) only[go_sem]
 repeat refine And.intro (by first|omega|(constructor<;>omega)|kernel_rfl) ?_
 refine CallW.mk (within_fn n 0 3) ?_
 try simp (maxSteps:=9^9) only[go_sem]
def nxH (h t:Int):Int:=if (0<=h/\h<=3)/\(t=1\/t=-1) then (h+t+4) % 4 else -1
theorem nxH_bad {h:Int} (t:Int) (hh:¬ (0<=h/\h<=3)):nxH h t=-1:=if_neg fun h=>hh h.1
theorem nxH_off (h:Int) {t:Int} (h1:¬ t=1) (h2:¬ t=-1):nxH h t=-1:=if_neg fun h=>h.2.elim h1 h2
theorem nxH_in {h t:Int} (hh:0<=h/\h<=3) (ht:t=1\/t=-1):nxH h t=(h+t+4) % 4:=if_pos ⟨hh,ht⟩
theorem implNextHeading_fn (h t:Int):Fn Tryz.prog 93 [⟨.int,h⟩,⟨.int,t⟩] false [⟨.int,nxH h t⟩]:=by
 have c1:=isHeading_fn h
 by_cases hh:0<=h/\h<=3
 ·rw [decide_eq_true hh] at c1
  by_cases h1:t=1
  ·subst h1
   rw [nxH_in hh (.inl rfl)]
   refine fn_enter tabOK mixes Tryz.func93 rfl rfl _ Tryz.ntmps93 _ Tryz.results93 (by simp) fun hwf=>?_
   try simp (maxSteps:=9^9) only[go_sem]
   repeat refine And.intro (by first|omega|(constructor<;>omega)|kernel_rfl) ?_
   refine CallW.mk (c1) ?_
   try simp (maxSteps:=9^9) only[go_sem]
   repeat refine And.intro (by first|omega|(constructor<;>omega)|kernel_rfl) ?_
   refine RemW.pos (by omega) (by omega) ?_
   try simp (maxSteps:=9^9) only[go_sem]
  ·by_cases h2:t=-1
   ·subst h2
    rw [nxH_in hh (.inr rfl)]
    refine fn_enter tabOK mixes Tryz.func93 rfl rfl _ Tryz.ntmps93 _ Tryz.results93 (by simp) fun hwf=>?_
    try simp (maxSteps:=9^9) only[go_sem]
    repeat refine And.intro (by first|omega|(constructor<;>omega)|kernel_rfl) ?_
    refine CallW.mk (c1) ?_
    try simp (maxSteps:=9^9) only[go_sem]
    repeat refine And.intro (by first|omega|(constructor<;>omega)|kernel_rfl) ?_
    refine RemW.pos (by omega) (by omega) ?_
    try simp (maxSteps:=9^9) only[go_sem]
   ·rw [nxH_off h h1 h2]
    refine fn_enter tabOK mixes Tryz.func93 rfl rfl _ Tryz.ntmps93 _ Tryz.results93 (by simp) fun hwf=>?_
    try simp (maxSteps:=9^9) only[go_sem]
    repeat refine And.intro (by first|omega|(constructor<;>omega)|kernel_rfl) ?_
    refine CallW.mk (c1) ?_
    try simp (maxSteps:=9^9) only[go_sem]
    try simp (maxSteps:=9^9) only[go_sem,h1,h2]
 ·rw [decide_eq_false hh] at c1
  rw [nxH_bad t hh]
  refine fn_enter tabOK mixes Tryz.func93 rfl rfl _ Tryz.ntmps93 _ Tryz.results93 (by simp) fun hwf=>?_
  try simp (maxSteps:=9^9) only[go_sem]
  repeat refine And.intro (by first|omega|(constructor<;>omega)|kernel_rfl) ?_
  refine CallW.mk (c1) ?_
  try simp (maxSteps:=9^9) only[go_sem]
theorem specNextHeading_fn (h t:Int):Fn Tryz.prog 121 [⟨.int,h⟩,⟨.int,t⟩] false [⟨.int,nxH h t⟩]:=by
 have c1:=l01In_fn h 0 3
 by_cases hh:0<=h/\h<=3
 ·rw [decide_eq_true hh] at c1
  by_cases h1:t=1
  ·subst h1
   rw [nxH_in hh (.inl rfl),show h+1+4=h+4+1 by omega]
   refine fn_enter tabOK mixes Tryz.func121 rfl rfl _ Tryz.ntmps121 _ Tryz.results121 (by simp) fun hwf=>?_
   try simp (maxSteps:=9^9) only[go_sem]
   repeat refine And.intro (by first|omega|(constructor<;>omega)|kernel_rfl) ?_
   refine CallW.mk (c1) ?_
   try simp (maxSteps:=9^9) only[go_sem]
   repeat refine And.intro (by first|omega|(constructor<;>omega)|kernel_rfl) ?_
   refine RemW.pos (by omega) (by omega) ?_
   try simp (maxSteps:=9^9) only[go_sem]
  ·by_cases h2:t=-1
   ·subst h2
    rw [nxH_in hh (.inr rfl),show h+-1+4=h+4+-1 by omega]
    refine fn_enter tabOK mixes Tryz.func121 rfl rfl _ Tryz.ntmps121 _ Tryz.results121 (by simp) fun hwf=>?_
    try simp (maxSteps:=9^9) only[go_sem]
    repeat refine And.intro (by first|omega|(constructor<;>omega)|kernel_rfl) ?_
    refine CallW.mk (c1) ?_
    try simp (maxSteps:=9^9) only[go_sem]
    repeat refine And.intro (by first|omega|(constructor<;>omega)|kernel_rfl) ?_
    refine RemW.pos (by omega) (by omega) ?_
    try simp (maxSteps:=9^9) only[go_sem]
   ·rw [nxH_off h h1 h2]
    refine fn_enter tabOK mixes Tryz.func121 rfl rfl _ Tryz.ntmps121 _ Tryz.results121 (by simp) fun hwf=>?_
    try simp (maxSteps:=9^9) only[go_sem]
    repeat refine And.intro (by first|omega|(constructor<;>omega)|kernel_rfl) ?_
    refine CallW.mk (c1) ?_
    try simp (maxSteps:=9^9) only[go_sem]
    try simp (maxSteps:=9^9) only[go_sem,h1,h2]
 ·rw [decide_eq_false hh] at c1
  rw [nxH_bad t hh]
  refine fn_enter tabOK mixes Tryz.func121 rfl rfl _ Tryz.ntmps121 _ Tryz.results121 (by simp) fun hwf=>?_
  try simp (maxSteps:=9^9) only[go_sem]
  repeat refine And.intro (by first|omega|(constructor<;>omega)|kernel_rfl) ?_
  refine CallW.mk (c1) ?_
  try simp (maxSteps:=9^9) only[go_sem]
def stp (p x:DS):DS:=if x.1=0 then (p.1,x.2) else if x.1=1\/x.1=-1 then (nxH p.1 x.1,p.2) else p
theorem stp_0 {p x:DS} (h:x.1=0):stp p x=(p.1,x.2):=if_pos h
theorem stp_t {p x:DS} (h:x.1=1\/x.1=-1):stp p x=(nxH p.1 x.1,p.2):=by
 have:¬ x.1=0:=by omega
 unfold stp; rw [if_neg this,if_pos h]
theorem stp_n {p x:DS} (h0:¬ x.1=0) (h1:¬ x.1=1) (h2:¬ x.1=-1):stp p x=p:=by
 unfold stp; rw [if_neg h0,if_neg (by omega)]
theorem stepped_fn (p x:DS):Fn Tryz.prog 51 [⟨tStep,p⟩,⟨tStep,x⟩] false [⟨tStep,stp p x⟩]:=by
 obtain ⟨h,p⟩:=p
 obtain ⟨t,q⟩:=x
 have c1:=implNextHeading_fn h t
 by_cases h0:t=0
 ·subst h0
  rw [stp_0 rfl]
  refine fn_enter tabOK mixes Tryz.func51 rfl rfl _ Tryz.ntmps51 _ Tryz.results51 (by simp) fun hwf=>?_
  try simp (maxSteps:=9^9) only[go_sem]
 ·by_cases h1:t=1
  ·subst h1
   rw [stp_t (.inl rfl)]
   refine fn_enter tabOK mixes Tryz.func51 rfl rfl _ Tryz.ntmps51 _ Tryz.results51 (by simp) fun hwf=>?_
   try simp (maxSteps:=9^9) only[go_sem]
   repeat refine And.intro (by first|omega|(constructor<;>omega)|kernel_rfl) ?_
   refine CallW.mk (c1) ?_
   try simp (maxSteps:=9^9) only[go_sem]
  ·by_cases h2:t=-1
   ·subst h2
    rw [stp_t (.inr rfl)]
    refine fn_enter tabOK mixes Tryz.func51 rfl rfl _ Tryz.ntmps51 _ Tryz.results51 (by simp) fun hwf=>?_
    try simp (maxSteps:=9^9) only[go_sem]
    repeat refine And.intro (by first|omega|(constructor<;>omega)|kernel_rfl) ?_
    refine CallW.mk (c1) ?_
    try simp (maxSteps:=9^9) only[go_sem]
   ·rw [stp_n h0 h1 h2]
    refine fn_enter tabOK mixes Tryz.func51 rfl rfl _ Tryz.ntmps51 _ Tryz.results51 (by simp) fun hwf=>?_
    try simp (maxSteps:=9^9) only[go_sem,h0,h1,h2]
theorem l22After_fn (p x:DS):Fn Tryz.prog 85 [⟨tStep,p⟩,⟨tStep,x⟩] false [⟨tStep,stp p x⟩]:=by
 obtain ⟨h,p⟩:=p
 obtain ⟨t,q⟩:=x
 have c1:=specNextHeading_fn h t
 by_cases h0:t=0
 ·subst h0
  rw [stp_0 rfl]
  refine fn_enter tabOK mixes Tryz.func85 rfl rfl _ Tryz.ntmps85 _ Tryz.results85 (by simp) fun hwf=>?_
  try simp (maxSteps:=9^9) only[go_sem]
 ·by_cases h1:t=1
  ·subst h1
   rw [stp_t (.inl rfl)]
   refine fn_enter tabOK mixes Tryz.func85 rfl rfl _ Tryz.ntmps85 _ Tryz.results85 (by simp) fun hwf=>?_
   try simp (maxSteps:=9^9) only[go_sem]
   repeat refine And.intro (by first|omega|(constructor<;>omega)|kernel_rfl) ?_
   refine CallW.mk (c1) ?_
   try simp (maxSteps:=9^9) only[go_sem]
  ·by_cases h2:t=-1
   ·subst h2
    rw [stp_t (.inr rfl)]
    refine fn_enter tabOK mixes Tryz.func85 rfl rfl _ Tryz.ntmps85 _ Tryz.results85 (by simp) fun hwf=>?_
    try simp (maxSteps:=9^9) only[go_sem]
    repeat refine And.intro (by first|omega|(constructor<;>omega)|kernel_rfl) ?_
    refine CallW.mk (c1) ?_
    try simp (maxSteps:=9^9) only[go_sem]
   ·rw [stp_n h0 h1 h2]
    refine fn_enter tabOK mixes Tryz.func85 rfl rfl _ Tryz.ntmps85 _ Tryz.results85 (by simp) fun hwf=>?_
    try simp (maxSteps:=9^9) only[go_sem,h0,h1,h2]
end Go.Proofs.YtaflkgjckmfkoaaGreat.DW

namespace Go.Proofs.YtaflkgjckmfkoaaGreat.DW
open Go.RowKit
abbrev DV:Type:=Int × Int
def inB (k:Int) (v:DV):Bool:=decide (-k<=v.1/\v.1<=k) && decide (-k<=v.2/\v.2<=k)
def okV (v:DV):Bool:=inB 1000 v
theorem okV_b {v:DV} (h:okV v=true):-1000<=v.1/\v.1<=1000/\-1000<=v.2/\v.2<=1000:=by
 unfold okV inB at h
 rw [Bool.and_eq_true,decide_eq_true_iff,decide_eq_true_iff] at h
 omega
theorem isVec_fn (v:DV):Fn Tryz.prog 153 [⟨tVec,v⟩] false [⟨.bool,okV v⟩]:=by
 have c1:=within_fn v.1 (-1000) 1000
 have c2:=within_fn v.2 (-1000) 1000
 unfold okV inB
 cases h:decide (-1000<=v.1/\v.1<=1000)<;>rw [h] at c1
 ·refine fn_enter tabOK mixes Tryz.func153 rfl rfl _ Tryz.ntmps153 _ Tryz.results153 (by simp) fun hwf=>?_
  try simp (maxSteps:=9^9) only[go_sem]
  repeat refine And.intro (by first|omega|(constructor<;>omega)|kernel_rfl) ?_
  refine CallW.mk (c1) ?_
  try simp (maxSteps:=9^9) only[go_sem]
 ·refine fn_enter tabOK mixes Tryz.func153 rfl rfl _ Tryz.ntmps153 _ Tryz.results153 (by simp) fun hwf=>?_
  try simp (maxSteps:=9^9) only[go_sem]
  repeat refine And.intro (by first|omega|(constructor<;>omega)|kernel_rfl) ?_
  refine CallW.mk (c1) ?_
  try simp (maxSteps:=9^9) only[go_sem]
  repeat refine And.intro (by first|omega|(constructor<;>omega)|kernel_rfl) ?_
  refine CallW.mk (c2) ?_
  try simp (maxSteps:=9^9) only[go_sem]
theorem IsValidVec_fn (v:DV):Fn Tryz.prog 147 [⟨tVec,v⟩] false [⟨.bool,okV v⟩]:=by
 have c1:=l01In_fn v.1 (-1000) 1000
 have c2:=l01In_fn v.2 (-1000) 1000
 unfold okV inB
 cases h:decide (-1000<=v.1/\v.1<=1000)<;>rw [h] at c1
 ·refine fn_enter tabOK mixes Tryz.func147 rfl rfl _ Tryz.ntmps147 _ Tryz.results147 (by simp) fun hwf=>?_
  try simp (maxSteps:=9^9) only[go_sem]
  repeat refine And.intro (by first|omega|(constructor<;>omega)|kernel_rfl) ?_
  refine CallW.mk (c1) ?_
  try simp (maxSteps:=9^9) only[go_sem]
 ·refine fn_enter tabOK mixes Tryz.func147 rfl rfl _ Tryz.ntmps147 _ Tryz.results147 (by simp) fun hwf=>?_
  try simp (maxSteps:=9^9) only[go_sem]
  repeat refine And.intro (by first|omega|(constructor<;>omega)|kernel_rfl) ?_
  refine CallW.mk (c1) ?_
  try simp (maxSteps:=9^9) only[go_sem]
  repeat refine And.intro (by first|omega|(constructor<;>omega)|kernel_rfl) ?_
  refine CallW.mk (c2) ?_
  try simp (maxSteps:=9^9) only[go_sem]
theorem mul_bd {x y:Int} (h1:-2000<=x) (h2:x<=2000) (h3:-2000<=y) (h4:y<=2000):-4000000<=x * y/\x * y<=4000000:=by
 have e1:0<=(2000 - x) * (2000 - y):=Int.mul_nonneg (by omega) (by omega)
 have e2:0<=(2000+x) * (2000+y):=Int.mul_nonneg (by omega) (by omega)
 have e3:0<=(2000 - x) * (2000+y):=Int.mul_nonneg (by omega) (by omega)
 have e4:0<=(2000+x) * (2000 - y):=Int.mul_nonneg (by omega) (by omega)
 simp only [Int.sub_mul,Int.add_mul,Int.mul_sub,Int.mul_add] at e1 e2 e3 e4
 omega
def trn (a b c:DV):Int:=(b.1 - a.1) * (c.2 - a.2) - (b.2 - a.2) * (c.1 - a.1)
theorem turn_fn (a b c:DV) (ha:okV a=true) (hb:okV b=true) (hc:okV c=true):Fn Tryz.prog 123 [⟨tVec,a⟩,⟨tVec,b⟩,⟨tVec,c⟩] false [⟨.int,trn a b c⟩]:=by
 have ha:=okV_b ha; have hb:=okV_b hb; have hc:=okV_b hc
 have m1:=mul_bd (x:=b.1 - a.1) (y:=c.2 - a.2) (by omega) (by omega) (by omega) (by omega)
 have m2:=mul_bd (x:=b.2 - a.2) (y:=c.1 - a.1) (by omega) (by omega) (by omega) (by omega)
 unfold trn
 refine fn_enter tabOK mixes Tryz.func123 rfl rfl _ Tryz.ntmps123 _ Tryz.results123 (by simp) fun hwf=>?_
 try simp (maxSteps:=9^9) only[go_sem]
 all_goals repeat refine And.intro (by first|omega|(constructor<;>omega)|kernel_rfl) ?_
 all_goals first|kernel_rfl|omega|rfl
def trq (a b c:DV):Int:=if okV a && okV b && okV c then trn a b c else 0
theorem Turn_fn (a b c:DV):Fn Tryz.prog 151 [⟨tVec,a⟩,⟨tVec,b⟩,⟨tVec,c⟩] false [⟨.int,trq a b c⟩]:=by
 have c1:=IsValidVec_fn a
 have c2:=IsValidVec_fn b
 have c3:=IsValidVec_fn c
 unfold trq
 cases ha:okV a<;>rw [ha] at c1
 ·refine fn_enter tabOK mixes Tryz.func151 rfl rfl _ Tryz.ntmps151 _ Tryz.results151 (by simp) fun hwf=>?_
  try simp (maxSteps:=9^9) only[go_sem]
  repeat refine And.intro (by first|omega|(constructor<;>omega)|kernel_rfl) ?_
  refine CallW.mk (c1) ?_
  try simp (maxSteps:=9^9) only[go_sem]
 ·cases hb:okV b<;>rw [hb] at c2
  ·refine fn_enter tabOK mixes Tryz.func151 rfl rfl _ Tryz.ntmps151 _ Tryz.results151 (by simp) fun hwf=>?_
   try simp (maxSteps:=9^9) only[go_sem]
   repeat refine And.intro (by first|omega|(constructor<;>omega)|kernel_rfl) ?_
   refine CallW.mk (c1) ?_
   try simp (maxSteps:=9^9) only[go_sem]
   repeat refine And.intro (by first|omega|(constructor<;>omega)|kernel_rfl) ?_
   refine CallW.mk (c2) ?_
   try simp (maxSteps:=9^9) only[go_sem]
  ·cases hc:okV c<;>rw [hc] at c3
   ·refine fn_enter tabOK mixes Tryz.func151 rfl rfl _ Tryz.ntmps151 _ Tryz.results151 (by simp) fun hwf=>?_
    try simp (maxSteps:=9^9) only[go_sem]
    repeat refine And.intro (by first|omega|(constructor<;>omega)|kernel_rfl) ?_
    refine CallW.mk (c1) ?_
    try simp (maxSteps:=9^9) only[go_sem]
    repeat refine And.intro (by first|omega|(constructor<;>omega)|kernel_rfl) ?_
    refine CallW.mk (c2) ?_
    try simp (maxSteps:=9^9) only[go_sem]
    repeat refine And.intro (by first|omega|(constructor<;>omega)|kernel_rfl) ?_
    refine CallW.mk (c3) ?_
    try simp (maxSteps:=9^9) only[go_sem]
   ·have ha:=okV_b ha; have hb:=okV_b hb; have hc:=okV_b hc
    have m1:=mul_bd (x:=b.1 - a.1) (y:=c.2 - a.2) (by omega) (by omega) (by omega) (by omega)
    have m2:=mul_bd (x:=b.2 - a.2) (y:=c.1 - a.1) (by omega) (by omega) (by omega) (by omega)
    unfold trn
    refine fn_enter tabOK mixes Tryz.func151 rfl rfl _ Tryz.ntmps151 _ Tryz.results151 (by simp) fun hwf=>?_
    try simp (maxSteps:=9^9) only[go_sem]
    repeat refine And.intro (by first|omega|(constructor<;>omega)|kernel_rfl) ?_
    refine CallW.mk (c1) ?_
    try simp (maxSteps:=9^9) only[go_sem]
    repeat refine And.intro (by first|omega|(constructor<;>omega)|kernel_rfl) ?_
    refine CallW.mk (c2) ?_
    try simp (maxSteps:=9^9) only[go_sem]
    repeat refine And.intro (by first|omega|(constructor<;>omega)|kernel_rfl) ?_
    refine CallW.mk (c3) ?_
    try simp (maxSteps:=9^9) only[go_sem]
    all_goals repeat refine And.intro (by first|omega|(constructor<;>omega)|kernel_rfl) ?_
    all_goals first|kernel_rfl|omega|rfl
end Go.Proofs.YtaflkgjckmfkoaaGreat.DW

namespace Go.Proofs.YtaflkgjckmfkoaaGreat.DW
open Go.RowKit
theorem indexFunc_vec_fn (F:FuncId) (p:DV->Bool) (hF:∀ x:DV,Fn Tryz.prog F [⟨tVec,x⟩] false [⟨.bool,p x⟩]) (l:List DV):Fn Tryz.prog 154 [⟨.slice tVec,l⟩,⟨.cst (.fn F),()⟩] false [⟨.int,ixf (t:=tVec) p l⟩]:=by
 refine fn_enter tabOK mixes Tryz.func154 rfl rfl _ Tryz.ntmps154 _ Tryz.results154 (by simp) fun hwf=>?_
 have hl:l.length<=9223372036854775807:=(hwf ⟨.slice tVec,l⟩ (by simp)).1
 try simp (maxSteps:=9^9) only[go_sem]
 refine LoopG.intro _ _ _ (fun i:Nat=>⟨[(0,.sl tVec l),(1,.sc (.func (.func F) #[] #[])),(7,.sc (.int .i64 l.length)),(8,.sc (.int .i64 i))],[]⟩) (fun i=>∀ j < i,j < l.length->p (nth (t:=tVec) l j)=false) (fun i=>l.length - i) 0 ?_ (fun j h=>by simp at h) ?_
 ·refine Wk.mk [] ?_
  try simp (maxSteps:=9^9) only[go_sem]
  try (and_intros<;>first|rfl|omega|exact ⟨_,rfl⟩)
 ·rintro i h2
  try simp (maxSteps:=9^9) only[go_sem]
  refine CondW_dec (fun h3=>?_) (fun h3=>?_)
  ·try simp (maxSteps:=9^9) only[go_sem]
   repeat refine And.intro (by first|omega|(constructor<;>omega)|kernel_rfl) ?_
   refine CallW.mk (hF (nth (t:=tVec) l i)) ?_
   try simp (maxSteps:=9^9) only[go_sem]
   refine CondW_b (fun h4=>?_) (fun h4=>?_)
   ·try simp (maxSteps:=9^9) only[go_sem]
    exact (ixf_at (by omega) h4 (fun j hj=>h2 j hj (by omega))).symm
   ·try simp (maxSteps:=9^9) only[go_sem]
    repeat refine And.intro (by first|omega|(constructor<;>omega)|kernel_rfl) ?_
    refine LoopK.mk (i+1) ?_ (fun j hj hl=>?_) (by omega)
    ·refine Wk.mk [] ?_
     try simp (maxSteps:=9^9) only[go_sem]
     try (and_intros<;>first|rfl|omega|exact ⟨_,rfl⟩)
    ·by_cases hj2:j < i
     ·exact h2 j hj2 hl
     ·rw [show j=i by omega]; exact h4
  ·try simp (maxSteps:=9^9) only[go_sem]
   exact (ixf_none fun j hj=>h2 j (by omega) hj).symm
theorem containsFunc_vec_fn (F:FuncId) (p:DV->Bool) (hF:∀ x:DV,Fn Tryz.prog F [⟨tVec,x⟩] false [⟨.bool,p x⟩]) (l:List DV):Fn Tryz.prog 124 [⟨.slice tVec,l⟩,⟨.cst (.fn F),()⟩] false [⟨.bool,l.any p⟩]:=by
 refine fn_enter tabOK mixes Tryz.func124 rfl rfl _ Tryz.ntmps124 _ Tryz.results124 (by simp) fun hwf=>?_
 try simp (maxSteps:=9^9) only[go_sem]
 repeat refine And.intro (by first|omega|(constructor<;>omega)|kernel_rfl) ?_
 refine CallW.mk (indexFunc_vec_fn F p hF l) ?_
 try simp (maxSteps:=9^9) only[go_sem]
 exact ixf_any
theorem areVecsC_fn (v:DV):Fn Tryz.prog 152 [⟨tVec,v⟩] false [⟨.bool,!okV v⟩]:=by
 refine fn_enter tabOK mixes Tryz.func152 rfl rfl _ Tryz.ntmps152 _ Tryz.results152 (by simp) fun hwf=>?_
 try simp (maxSteps:=9^9) only[go_sem]
 repeat refine And.intro (by first|omega|(constructor<;>omega)|kernel_rfl) ?_
 refine CallW.mk (isVec_fn v) ?_
 try simp (maxSteps:=9^9) only[go_sem]
theorem areVecs_fn (l:List DV):Fn Tryz.prog 122 [⟨.slice tVec,l⟩] false [⟨.bool,!(l.any fun v=>!okV v)⟩]:=by
 refine fn_enter tabOK mixes Tryz.func122 rfl rfl _ Tryz.ntmps122 _ Tryz.results122 (by simp) fun hwf=>?_
 try simp (maxSteps:=9^9) only[go_sem]
 repeat refine And.intro (by first|omega|(constructor<;>omega)|kernel_rfl) ?_
 refine CallW.mk (containsFunc_vec_fn _ _ areVecsC_fn l) ?_
 try simp (maxSteps:=9^9) only[go_sem]
def nxt (n i:Nat):Int:=((i:Int)+1) % (n:Int)
def cornOK (l:List DV) (i k:Nat):Prop:=¬ (k:Int)=i->¬ (k:Int)=nxt l.length i->0 < trn (nth (t:=tVec) l i) (nth (t:=tVec) l (nxt l.length i).toNat) (nth (t:=tVec) l k)
def polyP (l:List DV):Prop:=(3<=(l.length:Int)/\(l.length:Int)<=16)/\(∀ v ∈ l,okV v=true)/\∀ i k,i < l.length->k < l.length->cornOK l i k
noncomputable def polyB (l:List DV):Bool:=@decide (polyP l) (Classical.propDecidable _)
theorem polyB_t {l:List DV} (h:polyP l):polyB l=true:=@decide_eq_true _ (Classical.propDecidable _) h
theorem polyB_f {l:List DV} (h:¬ polyP l):polyB l=false:=@decide_eq_false _ (Classical.propDecidable _) h
theorem any_okV {l:List DV} (h:(l.any fun v=>!okV v)=false):∀ v ∈ l,okV v=true:=by
 intro v hv
 rw [List.any_eq_false] at h
 simpa using h v hv
theorem nxt_rng {n i:Nat} (h:0 < n):0<=nxt n i/\nxt n i < n:=⟨Int.emod_nonneg _ (by omega),Int.emod_lt_of_pos _ (by omega)⟩
theorem nth_mem {l:List DV} {i:Nat} (h:i < l.length):nth (t:=tVec) l i ∈ l:=by rw [nth_lt h]; exact List.getElem_mem h
theorem implIsPolygon_fn (l:List DV):Fn Tryz.prog 87 [⟨.slice tVec,l⟩] false [⟨.bool,polyB l⟩]:=by
 have c1:=within_fn l.length 3 16
 have c2:=areVecs_fn l
 by_cases h1:3<=(l.length:Int)/\(l.length:Int)<=16
 ·rw [decide_eq_true h1] at c1
  cases h2:l.any fun v=>!okV v<;>rw [h2] at c2
  ·have hok:=any_okV h2
   have hN:0 < l.length:=by omega
   refine fn_enter tabOK mixes Tryz.func87 rfl rfl _ Tryz.ntmps87 _ Tryz.results87 (by simp) fun hwf=>?_
   try simp (maxSteps:=9^9) only[go_sem]
   repeat refine And.intro (by first|omega|(constructor<;>omega)|kernel_rfl) ?_
   refine CallW.mk (c1) ?_
   try simp (maxSteps:=9^9) only[go_sem]
   repeat refine And.intro (by first|omega|(constructor<;>omega)|kernel_rfl) ?_
   refine CallW.mk (c2) ?_
   try simp (maxSteps:=9^9) only[go_sem]
   refine LoopG.intro _ _ _ (fun i:Nat=>⟨[(0,.sl tVec l),(3,.sc (.int .i64 l.length)),(19,.sl tVec l),(20,.sc (.int .i64 l.length)),(21,.sc (.int .i64 i))],[]⟩) (fun i=>∀ i' k,i' < i->i' < l.length->k < l.length->cornOK l i' k) (fun i=>l.length - i) 0 ?_ (fun i' k h=>absurd h (Nat.not_lt_zero _)) ?_
   ·refine Wk.mk [] ?_
    try simp (maxSteps:=9^9) only[go_sem]
    try (and_intros<;>first|rfl|omega|exact ⟨_,rfl⟩)
   ·rintro i hi
    have hr:=nxt_rng (i:=i) hN
    unfold nxt at hr
    try simp (maxSteps:=9^9) only[go_sem]
    refine CondW_dec (fun hA=>?_) (fun hA=>?_)
    ·try simp (maxSteps:=9^9) only[go_sem]
     repeat refine And.intro (by first|omega|(constructor<;>omega)|kernel_rfl) ?_
     refine RemW.pos (by omega) (by omega) ?_
     try simp (maxSteps:=9^9) only[go_sem]
     repeat refine And.intro (by first|omega|(constructor<;>omega)|kernel_rfl) ?_
     refine LoopG.intro _ _ _ (fun k:Nat=>⟨[(0,.sl tVec l),(3,.sc (.int .i64 l.length)),(19,.sl tVec l),(20,.sc (.int .i64 l.length)),(21,.sc (.int .i64 i)),(4,.sc (.int .i64 i)),(5,.ptr 0 0),(6,.ptr 1 0),(33,.sl tVec l),(34,.sc (.int .i64 l.length)),(35,.sc (.int .i64 k))],[(1,.box [.sc (.int .i64 (nth (t:=tVec) l (nxt l.length i).toNat).1),.sc (.int .i64 (nth (t:=tVec) l (nxt l.length i).toNat).2)]),(0,.box [.sc (.int .i64 (nth (t:=tVec) l i).1),.sc (.int .i64 (nth (t:=tVec) l i).2)])]⟩) (fun k=>∀ k',k' < k->k' < l.length->cornOK l i k') (fun k=>l.length - k) 0 ?_ (fun k h=>absurd h (Nat.not_lt_zero _)) ?_
     ·refine Wk.mk [] ?_
      try simp (maxSteps:=9^9) only[go_sem]
      try (and_intros<;>first|rfl|omega|exact ⟨_,rfl⟩)
     ·rintro k hk
      have hv:=turn_fn (nth (t:=tVec) l i) (nth (t:=tVec) l (nxt l.length i).toNat) (nth (t:=tVec) l k)
      have hi3:i < l.length:=by omega
      have oi:=hok _ (nth_mem hi3)
      have on:=hok _ (nth_mem (l:=l) (i:=(nxt l.length i).toNat) (by unfold nxt; omega))
      try simp (maxSteps:=9^9) only[go_sem]
      refine CondW_dec (fun hB=>?_) (fun hB=>?_)
      ·have hv:=hv oi on (hok _ (nth_mem (by omega)))
       have hgo:cornOK l i k->∀ k',k' < k+1->k' < l.length->cornOK l i k':=fun h k' h1 h2=>by
        by_cases h3:k' < k
        ·exact hk k' h3 h2
        ·rw [show k'=k by omega]; exact h
       by_cases e1:(k:Int)=i
       ·have d1:=decide_eq_true e1
        try simp (maxSteps:=9^9) only[go_sem,d1]
        repeat refine And.intro (by first|omega|(constructor<;>omega)|kernel_rfl) ?_
        refine LoopK.mk (k+1) ?_ (hgo fun h=>absurd e1 h) (by omega)
        refine Wk.mk [] ?_
        try simp (maxSteps:=9^9) only[go_sem]
        try (and_intros<;>first|rfl|omega|exact ⟨_,rfl⟩)
       ·have d1:=decide_eq_false e1
        by_cases e2:(k:Int)=((i:Int)+1) % (l.length:Int)
        ·have d2:=decide_eq_true e2
         try simp (maxSteps:=9^9) only[go_sem,d1]
         repeat refine And.intro (by first|omega|(constructor<;>omega)|kernel_rfl) ?_
         refine RemW.pos (by omega) (by omega) ?_
         try simp (maxSteps:=9^9) only[go_sem,d2]
         repeat refine And.intro (by first|omega|(constructor<;>omega)|kernel_rfl) ?_
         refine LoopK.mk (k+1) ?_ (hgo fun _ h=>absurd e2 h) (by omega)
         refine Wk.mk [] ?_
         try simp (maxSteps:=9^9) only[go_sem]
         try (and_intros<;>first|rfl|omega|exact ⟨_,rfl⟩)
        ·have d2:=decide_eq_false e2
         try simp (maxSteps:=9^9) only[go_sem,d1]
         repeat refine And.intro (by first|omega|(constructor<;>omega)|kernel_rfl) ?_
         refine RemW.pos (by omega) (by omega) ?_
         try simp (maxSteps:=9^9) only[go_sem,d2]
         repeat refine And.intro (by first|omega|(constructor<;>omega)|kernel_rfl) ?_
         refine CallW.mk (hv) ?_
         try simp (maxSteps:=9^9) only[go_sem]
         refine CondW_dec (fun e3=>?_) (fun e3=>?_)
         ·have:¬ polyP l:=fun h=>by
           have:=h.2.2 i k (by omega) (by omega) e1 e2
           omega
          rw [polyB_f this]
          try simp (maxSteps:=9^9) only[go_sem]
         ·try simp (maxSteps:=9^9) only[go_sem]
          repeat refine And.intro (by first|omega|(constructor<;>omega)|kernel_rfl) ?_
          refine LoopK.mk (k+1) ?_ (hgo fun _ _=>by omega) (by omega)
          refine Wk.mk [] ?_
          try simp (maxSteps:=9^9) only[go_sem]
          try (and_intros<;>first|rfl|omega|exact ⟨_,rfl⟩)
      ·try simp (maxSteps:=9^9) only[go_sem]
       repeat refine And.intro (by first|omega|(constructor<;>omega)|kernel_rfl) ?_
       refine LoopK.mk (i+1) ?_ (fun i' k' h1 h2 h3=>?_) (by omega)
       ·refine Wk.mk [] ?_
        try simp (maxSteps:=9^9) only[go_sem]
        try (and_intros<;>first|rfl|omega|exact ⟨_,rfl⟩)
       ·by_cases h4:i' < i
        ·exact hi i' k' h4 h2 h3
        ·rw [show i'=i by omega]; exact hk k' (by omega) h3
    ·have:polyP l:=⟨h1,hok,fun i' k h3 h4=>hi i' k (by omega) h3 h4⟩
     rw [polyB_t this]
     try simp (maxSteps:=9^9) only[go_sem]
  ·have:¬ polyP l:=fun h=>by
    have:=h.2.1
    rw [List.any_eq_true] at h2
    obtain ⟨v,hv,h3⟩:=h2
    rw [this v hv] at h3
    cases h3
   rw [polyB_f this]
   refine fn_enter tabOK mixes Tryz.func87 rfl rfl _ Tryz.ntmps87 _ Tryz.results87 (by simp) fun hwf=>?_
   try simp (maxSteps:=9^9) only[go_sem]
   repeat refine And.intro (by first|omega|(constructor<;>omega)|kernel_rfl) ?_
   refine CallW.mk (c1) ?_
   try simp (maxSteps:=9^9) only[go_sem]
   repeat refine And.intro (by first|omega|(constructor<;>omega)|kernel_rfl) ?_
   refine CallW.mk (c2) ?_
   try simp (maxSteps:=9^9) only[go_sem]
 ·rw [decide_eq_false h1] at c1
  have:¬ polyP l:=fun h=>h1 h.1
  rw [polyB_f this]
  refine fn_enter tabOK mixes Tryz.func87 rfl rfl _ Tryz.ntmps87 _ Tryz.results87 (by simp) fun hwf=>?_
  try simp (maxSteps:=9^9) only[go_sem]
  repeat refine And.intro (by first|omega|(constructor<;>omega)|kernel_rfl) ?_
  refine CallW.mk (c1) ?_
  try simp (maxSteps:=9^9) only[go_sem]
def specOK (l:List DV) (i k:Nat):Prop:=okV (nth (t:=tVec) l k)=true/\(¬ (k:Int)=i->¬ (k:Int)=nxt l.length i->0 < trq (nth (t:=tVec) l i) (nth (t:=tVec) l (nxt l.length i).toNat) (nth (t:=tVec) l k))
theorem specOK_of {l:List DV} (h:polyP l) {i k:Nat} (hi:i < l.length) (hk:k < l.length):specOK l i k:=by
 have hr:=nxt_rng (n:=l.length) (i:=i) (by omega)
 refine ⟨h.2.1 _ (nth_mem hk),fun h1 h2=>?_⟩
 have h3:=h.2.2 i k hi hk h1 h2
 unfold trq
 rw [h.2.1 _ (nth_mem hi),h.2.1 _ (nth_mem hk),h.2.1 _ (nth_mem (i:=(nxt l.length i).toNat) (by omega))]
 exact h3
theorem polyP_of {l:List DV} (h0:3<=(l.length:Int)/\(l.length:Int)<=16) (h:∀ i k,i < l.length->k < l.length->specOK l i k):polyP l:=by
 have hv:∀ k,k < l.length->okV (nth (t:=tVec) l k)=true:=fun k hk=>(h 0 k (by omega) hk).1
 refine ⟨h0,fun v hm=>?_,fun i k hi hk h1 h2=>?_⟩
 ·obtain ⟨k,hk,rfl⟩:=List.getElem_of_mem hm
  have:=hv k hk
  rw [nth_lt hk] at this
  exact this
 ·have hr:=nxt_rng (n:=l.length) (i:=i) (by omega)
  have h3:=(h i k hi hk).2 h1 h2
  unfold trq at h3
  rw [hv i hi,hv k hk,hv (nxt l.length i).toNat (by omega)] at h3
  exact h3
theorem specIsPolygon_fn (l:List DV):Fn Tryz.prog 119 [⟨.slice tVec,l⟩] false [⟨.bool,polyB l⟩]:=by
 have c1:=l01In_fn l.length 3 16
 by_cases h1:3<=(l.length:Int)/\(l.length:Int)<=16
 ·rw [decide_eq_true h1] at c1
  have hN:0 < l.length:=by omega
  refine fn_enter tabOK mixes Tryz.func119 rfl rfl _ Tryz.ntmps119 _ Tryz.results119 (by simp) fun hwf=>?_
  try simp (maxSteps:=9^9) only[go_sem]
  repeat refine And.intro (by first|omega|(constructor<;>omega)|kernel_rfl) ?_
  refine CallW.mk (c1) ?_
  try simp (maxSteps:=9^9) only[go_sem]
  refine LoopG.intro _ _ _ (fun i:Nat=>⟨[(0,.sl tVec l),(3,.sc (.int .i64 l.length)),(14,.sl tVec l),(15,.sc (.int .i64 l.length)),(16,.sc (.int .i64 i))],[]⟩) (fun i=>∀ i' k,i' < i->i' < l.length->k < l.length->specOK l i' k) (fun i=>l.length - i) 0 ?_ (fun i' k h=>absurd h (Nat.not_lt_zero _)) ?_
  ·refine Wk.mk [] ?_
   try simp (maxSteps:=9^9) only[go_sem]
   try (and_intros<;>first|rfl|omega|exact ⟨_,rfl⟩)
  ·rintro i hi
   have hr:=nxt_rng (i:=i) hN
   unfold nxt at hr
   try simp (maxSteps:=9^9) only[go_sem]
   refine CondW_dec (fun hA=>?_) (fun hA=>?_)
   ·try simp (maxSteps:=9^9) only[go_sem]
    repeat refine And.intro (by first|omega|(constructor<;>omega)|kernel_rfl) ?_
    refine RemW.pos (by omega) (by omega) ?_
    try simp (maxSteps:=9^9) only[go_sem]
    repeat refine And.intro (by first|omega|(constructor<;>omega)|kernel_rfl) ?_
    refine LoopG.intro _ _ _ (fun k:Nat=>⟨[(0,.sl tVec l),(3,.sc (.int .i64 l.length)),(14,.sl tVec l),(15,.sc (.int .i64 l.length)),(16,.sc (.int .i64 i)),(4,.sc (.int .i64 i)),(5,.ptr 0 0),(6,.ptr 1 0),(28,.sl tVec l),(29,.sc (.int .i64 l.length)),(30,.sc (.int .i64 k))],[(1,.box [.sc (.int .i64 (nth (t:=tVec) l (nxt l.length i).toNat).1),.sc (.int .i64 (nth (t:=tVec) l (nxt l.length i).toNat).2)]),(0,.box [.sc (.int .i64 (nth (t:=tVec) l i).1),.sc (.int .i64 (nth (t:=tVec) l i).2)])]⟩) (fun k=>∀ k',k' < k->k' < l.length->specOK l i k') (fun k=>l.length - k) 0 ?_ (fun k h=>absurd h (Nat.not_lt_zero _)) ?_
    ·refine Wk.mk [] ?_
     try simp (maxSteps:=9^9) only[go_sem]
     try (and_intros<;>first|rfl|omega|exact ⟨_,rfl⟩)
    ·rintro k hk
     have hv:=Turn_fn (nth (t:=tVec) l i) (nth (t:=tVec) l (nxt l.length i).toNat) (nth (t:=tVec) l k)
     have hw:=IsValidVec_fn (nth (t:=tVec) l k)
     try simp (maxSteps:=9^9) only[go_sem]
     refine CondW_dec (fun hB=>?_) (fun hB=>?_)
     ·have hgo:specOK l i k->∀ k',k' < k+1->k' < l.length->specOK l i k':=fun h k' h1 h2=>by
       by_cases h3:k' < k
       ·exact hk k' h3 h2
       ·rw [show k'=k by omega]; exact h
      cases e0:okV (nth (t:=tVec) l k)<;>rw [e0] at hw
      ·have:¬ polyP l:=fun h=>by
        have:=h.2.1 _ (nth_mem (l:=l) (i:=k) (by omega))
        rw [e0] at this; cases this
       rw [polyB_f this]
       try simp (maxSteps:=9^9) only[go_sem]
       repeat refine And.intro (by first|omega|(constructor<;>omega)|kernel_rfl) ?_
       refine CallW.mk (hw) ?_
       try simp (maxSteps:=9^9) only[go_sem]
      ·by_cases e1:(k:Int)=i
       ·have d1:=decide_eq_true e1
        try simp (maxSteps:=9^9) only[go_sem]
        repeat refine And.intro (by first|omega|(constructor<;>omega)|kernel_rfl) ?_
        refine CallW.mk (hw) ?_
        try simp (maxSteps:=9^9) only[go_sem]
        try simp (maxSteps:=9^9) only[go_sem,d1]
        repeat refine And.intro (by first|omega|(constructor<;>omega)|kernel_rfl) ?_
        refine LoopK.mk (k+1) ?_ (hgo ⟨e0,fun h=>absurd e1 h⟩) (by omega)
        refine Wk.mk [] ?_
        try simp (maxSteps:=9^9) only[go_sem]
        try (and_intros<;>first|rfl|omega|exact ⟨_,rfl⟩)
       ·have d1:=decide_eq_false e1
        by_cases e2:(k:Int)=((i:Int)+1) % (l.length:Int)
        ·have d2:=decide_eq_true e2
         try simp (maxSteps:=9^9) only[go_sem]
         repeat refine And.intro (by first|omega|(constructor<;>omega)|kernel_rfl) ?_
         refine CallW.mk (hw) ?_
         try simp (maxSteps:=9^9) only[go_sem]
         try simp (maxSteps:=9^9) only[go_sem,d1]
         repeat refine And.intro (by first|omega|(constructor<;>omega)|kernel_rfl) ?_
         refine RemW.pos (by omega) (by omega) ?_
         try simp (maxSteps:=9^9) only[go_sem,d2]
         repeat refine And.intro (by first|omega|(constructor<;>omega)|kernel_rfl) ?_
         refine LoopK.mk (k+1) ?_ (hgo ⟨e0,fun _ h=>absurd e2 h⟩) (by omega)
         refine Wk.mk [] ?_
         try simp (maxSteps:=9^9) only[go_sem]
         try (and_intros<;>first|rfl|omega|exact ⟨_,rfl⟩)
        ·have d2:=decide_eq_false e2
         try simp (maxSteps:=9^9) only[go_sem]
         repeat refine And.intro (by first|omega|(constructor<;>omega)|kernel_rfl) ?_
         refine CallW.mk (hw) ?_
         try simp (maxSteps:=9^9) only[go_sem]
         try simp (maxSteps:=9^9) only[go_sem,d1]
         repeat refine And.intro (by first|omega|(constructor<;>omega)|kernel_rfl) ?_
         refine RemW.pos (by omega) (by omega) ?_
         try simp (maxSteps:=9^9) only[go_sem,d2]
         repeat refine And.intro (by first|omega|(constructor<;>omega)|kernel_rfl) ?_
         refine CallW.mk (hv) ?_
         try simp (maxSteps:=9^9) only[go_sem]
         refine CondW_dec (fun e3=>?_) (fun e3=>?_)
         ·have:¬ polyP l:=fun h=>by
           have:=(specOK_of h (i:=i) (k:=k) (by omega) (by omega)).2 e1 e2
           omega
          rw [polyB_f this]
          try simp (maxSteps:=9^9) only[go_sem]
         ·try simp (maxSteps:=9^9) only[go_sem]
          repeat refine And.intro (by first|omega|(constructor<;>omega)|kernel_rfl) ?_
          refine LoopK.mk (k+1) ?_ (hgo ⟨e0,fun _ _=>by omega⟩) (by omega)
          refine Wk.mk [] ?_
          try simp (maxSteps:=9^9) only[go_sem]
          try (and_intros<;>first|rfl|omega|exact ⟨_,rfl⟩)
     ·try simp (maxSteps:=9^9) only[go_sem]
      repeat refine And.intro (by first|omega|(constructor<;>omega)|kernel_rfl) ?_
      refine LoopK.mk (i+1) ?_ (fun i' k' h1 h2 h3=>?_) (by omega)
      ·refine Wk.mk [] ?_
       try simp (maxSteps:=9^9) only[go_sem]
       try (and_intros<;>first|rfl|omega|exact ⟨_,rfl⟩)
      ·by_cases h4:i' < i
       ·exact hi i' k' h4 h2 h3
       ·rw [show i'=i by omega]; exact hk k' (by omega) h3
   ·have:polyP l:=polyP_of h1 fun i' k h3 h4=>hi i' k (by omega) h3 h4
    rw [polyB_t this]
    try simp (maxSteps:=9^9) only[go_sem]
 ·rw [decide_eq_false h1] at c1
  have:¬ polyP l:=fun h=>h1 h.1
  rw [polyB_f this]
  refine fn_enter tabOK mixes Tryz.func119 rfl rfl _ Tryz.ntmps119 _ Tryz.results119 (by simp) fun hwf=>?_
  try simp (maxSteps:=9^9) only[go_sem]
  repeat refine And.intro (by first|omega|(constructor<;>omega)|kernel_rfl) ?_
  refine CallW.mk (c1) ?_
  try simp (maxSteps:=9^9) only[go_sem]
end Go.Proofs.YtaflkgjckmfkoaaGreat.DW

namespace Go.Proofs.YtaflkgjckmfkoaaGreat.DW
open Go.RowKit
def ltV (a b:DV):Prop:=a.1 < b.1\/a.1=b.1/\a.2 < b.2
instance (a b:DV):Decidable (ltV a b):=by unfold ltV; infer_instance
theorem ltV_irrefl (a:DV):¬ ltV a a:=by unfold ltV; omega
theorem ltV_trans {a b c:DV} (h1:ltV a b) (h2:ltV b c):ltV a c:=by unfold ltV at *; omega
theorem ltV_tri (a b:DV):ltV a b\/a=b\/ltV b a:=by
 obtain ⟨a1,a2⟩:=a
 obtain ⟨b1,b2⟩:=b
 unfold ltV
 simp only [Prod.mk.injEq]
 omega
theorem ltV_asymm {a b:DV} (h:ltV a b):¬ ltV b a:=fun h2=>ltV_irrefl _ (ltV_trans h h2)
theorem srt_unique:∀ {l m:List DV},l.Pairwise ltV->m.Pairwise ltV->(∀ x,x ∈ l ↔ x ∈ m)->l=m
 | [],[],_,_,_=>rfl
 | [],b :: m,_,_,h=>absurd ((h b).2 List.mem_cons_self) (by simp)
 | a :: l,[],_,_,h=>absurd ((h a).1 List.mem_cons_self) (by simp)
 | a :: l,b :: m,h1,h2,h=>by
  rw [List.pairwise_cons] at h1 h2
  have hab:a=b:=by
   rcases List.mem_cons.1 ((h a).1 List.mem_cons_self) with e|e
   ·exact e
   ·rcases List.mem_cons.1 ((h b).2 List.mem_cons_self) with e2|e2
    ·exact e2.symm
    ·exact absurd (ltV_trans (h1.1 b e2) (h2.1 a e)) (ltV_irrefl _)
  subst hab
  refine congrArg (a :: ·) (srt_unique h1.2 h2.2 fun x=>⟨fun hx=>?_,fun hx=>?_⟩)
  ·rcases List.mem_cons.1 ((h x).1 (List.mem_cons_of_mem _ hx)) with e|e
   ·subst e; exact absurd (h1.1 _ hx) (ltV_irrefl _)
   ·exact e
  ·rcases List.mem_cons.1 ((h x).2 (List.mem_cons_of_mem _ hx)) with e|e
   ·subst e; exact absurd (h2.1 _ hx) (ltV_irrefl _)
   ·exact e
def cmpD:List DV->List DV
 | []=>[]
 | [a]=>[a]
 | a :: b :: l=>if a=b then cmpD (b :: l) else a :: cmpD (b :: l)
theorem cmpD_mem:∀ {l:List DV} {x:DV},x ∈ cmpD l ↔ x ∈ l
 | [],x=>by simp [cmpD]
 | [a],x=>by simp [cmpD]
 | a :: b :: l,x=>by
  have ih:=cmpD_mem (l:=b :: l) (x:=x)
  unfold cmpD
  split
  ·rename_i h; subst h; rw [ih]; simp
  ·rw [List.mem_cons,ih,List.mem_cons,List.mem_cons,List.mem_cons]
theorem cmpD_len:∀ {l:List DV},(cmpD l).length<=l.length
 | []=>by simp [cmpD]
 | [a]=>by simp [cmpD]
 | a :: b :: l=>by
  have ih:=cmpD_len (l:=b :: l)
  unfold cmpD
  split<;>simp only [List.length_cons] at ih ⊢<;>omega
theorem cmpD_srt:∀ {l:List DV},l.Pairwise (fun a b=>¬ ltV b a)->(cmpD l).Pairwise ltV
 | [],_=>by simp [cmpD]
 | [a],_=>by simp [cmpD]
 | a :: b :: l,h=>by
  rw [List.pairwise_cons] at h
  have ih:=cmpD_srt h.2
  unfold cmpD
  split
  ·exact ih
  ·rename_i hne
   refine List.pairwise_cons.2 ⟨fun x hx=>?_,ih⟩
   rw [cmpD_mem] at hx
   have hb:¬ ltV b a:=h.1 b List.mem_cons_self
   have hab:ltV a b:=by
    rcases ltV_tri a b with h|h|h
    ·exact h
    ·exact absurd h hne
    ·exact absurd h hb
   rcases List.mem_cons.1 hx with rfl|hx
   ·exact hab
   ·rcases ltV_tri b x with h3|h3|h3
    ·exact ltV_trans hab h3
    ·exact h3 ▸ hab
    ·exact absurd h3 ((List.pairwise_cons.1 h.2).1 x hx)
def cfV (a b:DV):Int:=if a.1=b.1 then a.2 - b.2 else a.1 - b.1
theorem cfV_lt (a b:DV):cfV a b < 0 ↔ ltV a b:=by
 unfold cfV ltV
 split<;>omega
def leB (a b:DV):Bool:=!decide (cfV b a < 0)
theorem leB_iff (a b:DV):leB a b=true ↔ ¬ ltV b a:=by
 unfold leB
 rw [Bool.not_eq_true',decide_eq_false_iff_not,cfV_lt]
def srtD (l:List DV):List DV:=cmpD (l.mergeSort leB)
theorem srtD_mem {l:List DV} {x:DV}:x ∈ srtD l ↔ x ∈ l:=by
 unfold srtD
 rw [cmpD_mem,List.mem_mergeSort]
theorem srtD_srt (l:List DV):(srtD l).Pairwise ltV:=by
 refine cmpD_srt ?_
 have h:=List.pairwise_mergeSort (le:=leB) (fun a b c h1 h2=>by
  rw [leB_iff] at *
  intro h
  rcases ltV_tri b a with h3|h3|h3
  ·exact h1 h3
  ·subst h3; exact h2 h
  ·exact h2 (ltV_trans h h3)) (fun a b=>by
  rcases ltV_tri a b with h|h|h
  ·rw [Bool.or_eq_true]; exact .inl ((leB_iff a b).2 (ltV_asymm h))
  ·subst h; rw [Bool.or_eq_true]; exact .inl ((leB_iff a a).2 (ltV_irrefl _))
  ·rw [Bool.or_eq_true]; exact .inr ((leB_iff b a).2 (ltV_asymm h))) l
 exact h.imp fun {a b} h=>(leB_iff a b).1 h
theorem srtD_len (l:List DV):(srtD l).length<=l.length:=by
 unfold srtD
 have:=cmpD_len (l:=l.mergeSort leB)
 rw [List.length_mergeSort] at this
 exact this
theorem srtD_eq {l m:List DV} (h1:m.Pairwise ltV) (h2:∀ x,x ∈ m ↔ x ∈ l):m=srtD l:=srt_unique h1 (srtD_srt l) fun x=>by rw [h2,srtD_mem]
def insD (p:DV):List DV->List DV
 | []=>[p]
 | a :: l=>if ltV a p then a :: insD p l else if a=p then a :: l else p :: a :: l
theorem insD_mem {p x:DV}:∀ {l:List DV},x ∈ insD p l ↔ x=p\/x ∈ l
 | []=>by simp [insD]
 | a :: l=>by
  have ih:=insD_mem (p:=p) (x:=x) (l:=l)
  unfold insD
  split
  ·rw [List.mem_cons,ih,List.mem_cons]; constructor
   ·rintro (h|h|h)
    ·exact .inr (.inl h)
    ·exact .inl h
    ·exact .inr (.inr h)
   ·rintro (h|h|h)
    ·exact .inr (.inl h)
    ·exact .inl h
    ·exact .inr (.inr h)
  ·split
   ·rename_i h; subst h; simp
   ·simp
theorem insD_srt {p:DV}:∀ {l:List DV},l.Pairwise ltV->(insD p l).Pairwise ltV
 | [],_=>by simp [insD]
 | a :: l,h=>by
  have h':=h
  rw [List.pairwise_cons] at h
  unfold insD
  split
  ·rename_i hlt
   refine List.pairwise_cons.2 ⟨fun x hx=>?_,insD_srt h.2⟩
   rcases insD_mem.1 hx with rfl|hx
   ·exact hlt
   ·exact h.1 x hx
  ·split
   ·exact h'
   ·rename_i h1 h2
    have hp:ltV p a:=by
     rcases ltV_tri a p with h3|h3|h3
     ·exact absurd h3 h1
     ·exact absurd h3 h2
     ·exact h3
    refine List.pairwise_cons.2 ⟨fun x hx=>?_,h'⟩
    rcases List.mem_cons.1 hx with rfl|hx
    ·exact hp
    ·exact ltV_trans hp (h.1 x hx)
theorem insD_at {p:DV}:∀ {l:List DV} {i:Nat},i<=l.length->(∀ j,j < i->ltV (nth (t:=tVec) l j) p)->(i < l.length->¬ ltV (nth (t:=tVec) l i) p) →
  insD p l=if i < l.length/\nth (t:=tVec) l i=p then l else l.take i++p :: l.drop i
 | [],0,_,_,_=>by simp [insD]
 | [],i+1,h,_,_=>by simp at h
 | a :: l,0,_,_,h2=>by
  have h2:¬ ltV a p:=h2 (by simp)
  have e:nth (t:=tVec) (a :: l) 0=a:=rfl
  unfold insD
  rw [if_neg h2,e]
  by_cases h3:a=p
  ·rw [if_pos h3,if_pos ⟨by simp,h3⟩]
  ·rw [if_neg h3,if_neg fun h=>h3 h.2]; rfl
 | a :: l,i+1,hi,h1,h2=>by
  have e:∀ j,nth (t:=tVec) (a :: l) (j+1)=nth (t:=tVec) l j:=fun j=>by simp [nth]
  have h0:ltV a p:=h1 0 (by omega)
  have ih:=insD_at (p:=p) (l:=l) (i:=i) (by simp only [List.length_cons] at hi; omega) (fun j hj=>by rw [<-e]; exact h1 (j+1) (by omega)) (fun hj=>by rw [<-e]; exact h2 (by simp only [List.length_cons]; omega))
  unfold insD
  rw [if_pos h0,ih,e]
  by_cases h3:i < l.length/\nth (t:=tVec) l i=p
  ·rw [if_pos h3,if_pos ⟨by simp only [List.length_cons]; omega,h3.2⟩]
  ·rw [if_neg h3,if_neg fun h=>h3 ⟨by have:=h.1; simp only [List.length_cons] at this; omega,h.2⟩]; rfl
def srtI (l:List DV) (i:Nat):List DV:=(l.take i).foldl (fun s p=>insD p s) []
theorem srtI_step {l:List DV} {i:Nat} (h:i < l.length):srtI l (i+1)=insD (nth (t:=tVec) l i) (srtI l i):=by
 unfold srtI
 rw [nth_lt h,List.take_succ_eq_append_getElem h,List.foldl_append]; rfl
theorem ins_fold:∀ {l s:List DV},s.Pairwise ltV->(l.foldl (fun s p=>insD p s) s).Pairwise ltV/\∀ x,x ∈ l.foldl (fun s p=>insD p s) s ↔ x ∈ l\/x ∈ s
 | [],s,h=>⟨h,fun x=>by simp⟩
 | p :: l,s,h=>by
  obtain ⟨h1,h2⟩:=ins_fold (l:=l) (insD_srt (p:=p) h)
  refine ⟨h1,fun x=>?_⟩
  rw [List.foldl_cons,h2,insD_mem,List.mem_cons]
  constructor
  ·rintro (h|h|h)
   ·exact .inl (.inr h)
   ·exact .inl (.inl h)
   ·exact .inr h
  ·rintro ((h|h)|h)
   ·exact .inr (.inl h)
   ·exact .inl h
   ·exact .inr (.inr h)
theorem srtI_all (l:List DV):srtI l l.length=srtD l:=by
 unfold srtI
 rw [List.take_length]
 obtain ⟨h1,h2⟩:=ins_fold (l:=l) (s:=[]) List.Pairwise.nil
 exact srtD_eq h1 fun x=>by rw [h2]; simp
theorem insD_len {p:DV}:∀ {l:List DV},(insD p l).length<=l.length+1
 | []=>by simp [insD]
 | a :: l=>by
  have ih:=insD_len (p:=p) (l:=l)
  unfold insD
  split
  ·simp only [List.length_cons]; omega
  ·split<;>simp only [List.length_cons]<;>omega
theorem srtI_len (l:List DV):∀ i,(srtI l i).length<=i
 | 0=>by simp [srtI]
 | i+1=>by
  by_cases h:i < l.length
  ·rw [srtI_step h]
   have:=insD_len (p:=nth (t:=tVec) l i) (l:=srtI l i)
   have:=srtI_len l i
   omega
  ·have:srtI l (i+1)=srtI l i:=by
    unfold srtI; rw [List.take_of_length_le (by omega),List.take_of_length_le (by omega)]
   rw [this]
   have:=srtI_len l i
   omega
def popD (v:DV):List DV->List DV
 | b :: a :: l=>if trn a b v<=0 then popD v (a :: l) else b :: a :: l
 | l=>l
theorem popD_len {v:DV}:∀ {l:List DV},(popD v l).length<=l.length
 | []=>Nat.le_refl _
 | [a]=>Nat.le_refl _
 | b :: a :: l=>by
  unfold popD
  split
  ·exact Nat.le_trans popD_len (by simp)
  ·exact Nat.le_refl _
theorem popD_sub {v x:DV}:∀ {l:List DV},x ∈ popD v l->x ∈ l
 | [],h=>h
 | [a],h=>h
 | b :: a :: l,h=>by
  unfold popD at h
  split at h
  ·exact List.mem_cons_of_mem _ (popD_sub h)
  ·exact h
def chR (l:List DV):List DV:=l.foldl (fun c v=>v :: popD v c) []
def chRi (l:List DV) (i:Nat):List DV:=chR (l.take i)
theorem chRi_step {l:List DV} {i:Nat} (h:i < l.length):chRi l (i+1)=nth (t:=tVec) l i :: popD (nth (t:=tVec) l i) (chRi l i):=by
 unfold chRi chR
 rw [nth_lt h,List.take_succ_eq_append_getElem h,List.foldl_append]; rfl
theorem chRi_len (l:List DV):∀ i,(chRi l i).length<=i
 | 0=>by simp [chRi,chR]
 | i+1=>by
  by_cases h:i < l.length
  ·rw [chRi_step h,List.length_cons]
   have:=popD_len (v:=nth (t:=tVec) l i) (l:=chRi l i)
   have:=chRi_len l i
   omega
  ·have:chRi l (i+1)=chRi l i:=by
    unfold chRi; rw [List.take_of_length_le (by omega),List.take_of_length_le (by omega)]
   rw [this]
   have:=chRi_len l i
   omega
theorem chRi_mem {l:List DV} {x:DV}:∀ {i:Nat},x ∈ chRi l i->x ∈ l
 | 0,h=>by simp [chRi,chR] at h
 | i+1,h=>by
  by_cases hi:i < l.length
  ·rw [chRi_step hi] at h
   rcases List.mem_cons.1 h with rfl|h
   ·exact nth_mem hi
   ·exact chRi_mem (popD_sub h)
  ·have e:chRi l (i+1)=chRi l i:=by
    unfold chRi; rw [List.take_of_length_le (by omega),List.take_of_length_le (by omega)]
   rw [e] at h
   exact chRi_mem h
def chD (l:List DV):List DV:=(chR l).reverse.dropLast
def hullD (l:List DV):List DV:=if (srtD l).length < 2 then srtD l else chD (srtD l)++chD (srtD l).reverse
end Go.Proofs.YtaflkgjckmfkoaaGreat.DW

namespace Go.Proofs.YtaflkgjckmfkoaaGreat.DW
open Go.RowKit
def rot1 (v:DV):DV:=(-v.2,v.1)
def rotN:Nat->DV->DV
 | 0,v=>v
 | n+1,v=>rot1 (rotN n v)
theorem okV_of {v:DV} (h1:-1000<=v.1) (h2:v.1<=1000) (h3:-1000<=v.2) (h4:v.2<=1000):okV v=true:=by
 unfold okV inB
 rw [Bool.and_eq_true,decide_eq_true_iff,decide_eq_true_iff]
 exact ⟨⟨h1,h2⟩,h3,h4⟩
theorem okV_rot {v:DV} (h:okV v=true):∀ n,okV (rotN n v)=true
 | 0=>h
 | n+1=>by
  have:=okV_b (okV_rot h n)
  show okV (rot1 (rotN n v))=true
  unfold rot1
  exact okV_of (by simp only; omega) (by simp only; omega) (by simp only; omega) (by simp only; omega)
theorem turnVec_fn (v:DV) (k:Int) (hv:okV v=true) (hk:0<=k/\k<=3):Fn Tryz.prog 129 [⟨tVec,v⟩,⟨.int,k⟩] false [⟨tVec,rotN k.toNat v⟩]:=by
 have e:(k % 4+4) % 4=k:=by omega
 refine fn_enter tabOK mixes Tryz.func129 rfl rfl _ Tryz.ntmps129 _ Tryz.results129 (by simp) fun hwf=>?_
 try simp (maxSteps:=9^9) only[go_sem]
 refine RemW.pos (by omega) (by decide) ?_
 try simp (maxSteps:=9^9) only[go_sem]
 repeat refine And.intro (by first|omega|(constructor<;>omega)|kernel_rfl) ?_
 refine RemW.pos (by omega) (by decide) ?_
 rw [e]
 try simp (maxSteps:=9^9) only[go_sem]
 refine LoopG.intro _ _ _ (fun i:Nat=>⟨[(2,.ptr 0 0),(4,.ptr 1 0),(8,.sc (.int .i64 k)),(9,.sc (.int .i64 i))],[(1,.box [.sc (.int .i64 0),.sc (.int .i64 0)]),(0,.box [.sc (.int .i64 (rotN i v).1),.sc (.int .i64 (rotN i v).2)])]⟩) (fun i=>i<=k.toNat) (fun i=>k.toNat - i) 0 ?_ (Nat.zero_le _) ?_
 ·refine Wk.mk [] ?_
  try simp (maxSteps:=9^9) only[go_sem]
  try (and_intros<;>first|rfl|omega|exact ⟨_,rfl⟩)
 ·rintro i hi
  have hb:=okV_b (okV_rot hv i)
  have hst:rotN (i+1) v=(-(rotN i v).2,(rotN i v).1):=rfl
  generalize rotN i v=u at hb hst ⊢
  obtain ⟨b1,b2,b3,b4⟩:=hb
  try simp (maxSteps:=9^9) only[go_sem]
  refine CondW_dec (fun hA=>?_) (fun hA=>?_)
  ·try simp (maxSteps:=9^9) only[go_sem]
   repeat refine And.intro (by first|omega|(constructor<;>omega)|kernel_rfl) ?_
   refine LoopK.mk (i+1) ?_ (by omega) (by omega)
   rw [hst]
   refine Wk.mk [] ?_
   try simp (maxSteps:=9^9) only[go_sem]
   try (and_intros<;>first|rfl|omega|exact ⟨_,rfl⟩)
  ·rw [show k.toNat=i by omega]
   try simp (maxSteps:=9^9) only[go_sem]
   all_goals repeat refine And.intro (by first|omega|(constructor<;>omega)|kernel_rfl) ?_
   all_goals first|kernel_rfl|omega|rfl
def mapi (f:DV->DV) (l:List DV) (i:Nat):List DV:=(l.take i).map f
theorem mapi_step {f:DV->DV} {l:List DV} {i:Nat} (h:i < l.length):mapi f l (i+1)=mapi f l i++[f (nth (t:=tVec) l i)]:=by
 unfold mapi
 rw [List.take_succ_eq_append_getElem h,nth_lt h,List.map_append]
 rfl
theorem mapi_len {f:DV->DV} {l:List DV} {i:Nat} (h:i<=l.length):(mapi f l i).length=i:=by
 unfold mapi
 rw [List.length_map,List.length_take]; omega
theorem mapi_all {f:DV->DV} {l:List DV} {i:Nat} (h:l.length<=i):mapi f l i=l.map f:=by
 unfold mapi
 rw [List.take_of_length_le h]
theorem any_okV_f {l:List DV} (h:∀ v ∈ l,okV v=true):(l.any fun v=>!okV v)=false:=by
 rw [List.any_eq_false]
 intro v hv
 rw [h v hv]; decide
theorem TurnPolygonI_fn (l:List DV) (k:Int) (hl:∀ v ∈ l,okV v=true) (hn:l.length<=1048576) (hk:0<=k/\k<=3):Fn Tryz.prog 95 [⟨.slice tVec,l⟩,⟨.int,k⟩] true [⟨.slice tVec,l.map (rotN k.toNat)⟩]:=by
 have c1:=areVecs_fn l
 rw [any_okV_f hl] at c1
 refine fn_enter tabOK mixes Tryz.func95 rfl rfl _ Tryz.ntmps95 _ Tryz.results95 (by simp) fun hwf=>?_
 try simp (maxSteps:=9^9) only[go_sem]
 repeat refine And.intro (by first|omega|(constructor<;>omega)|kernel_rfl) ?_
 refine CallW.mk (c1) ?_
 try simp (maxSteps:=9^9) only[go_sem]
 refine LoopG.intro _ _ _ (fun i:Nat=>⟨[(1,.sc (.int .i64 k)),(5,.row 0 0),(12,.sl tVec l),(13,.sc (.int .i64 l.length)),(14,.sc (.int .i64 i))],[(0,.row 78 tVec 0 true (mapi (rotN k.toNat) l i))]⟩) (fun i=>i<=l.length) (fun i=>l.length - i) 0 ?_ (Nat.zero_le _) ?_
 ·refine Wk.mk [] ?_
  try simp (maxSteps:=9^9) only[go_sem]
  try (and_intros<;>first|rfl|omega|exact ⟨_,rfl⟩)
 ·rintro i hi
  try simp (maxSteps:=9^9) only[go_sem]
  refine CondW_dec (fun hA=>?_) (fun hA=>?_)
  ·have hlt:i < l.length:=by omega
   have hml:=mapi_len (f:=rotN k.toNat) (l:=l) (i:=i) (by omega)
   have e:=mapi_step (f:=rotN k.toNat) hlt
   have c2:=turnVec_fn (nth (t:=tVec) l i) k (hl _ (nth_mem hlt)) hk
   try simp (maxSteps:=9^9) only[go_sem]
   repeat refine And.intro (by first|omega|(constructor<;>omega)|kernel_rfl) ?_
   refine CallW.mk (c2) ?_
   try simp (maxSteps:=9^9) only[go_sem]
   try simp (maxSteps:=9^9) only[go_sem,hml]
   repeat refine And.intro (by first|omega|(constructor<;>omega)|kernel_rfl) ?_
   refine LoopK.mk (i+1) ?_ (by omega) (by omega)
   rw [e]
   refine Wk.mk [] ?_
   try simp (maxSteps:=9^9) only[go_sem]
   try (and_intros<;>first|rfl|omega|exact ⟨_,rfl⟩)
   all_goals (first|exact ⟨by omega,rfl⟩|exact ⟨rfl,rfl⟩)
  ·rw [mapi_all (by omega)]
   try simp (maxSteps:=9^9) only[go_sem]
def negV (v:DV):DV:=(-v.1,-v.2)
theorem NegatePolygonI_fn (l:List DV) (hl:∀ v ∈ l,okV v=true) (hn:l.length<=1048576):Fn Tryz.prog 133 [⟨.slice tVec,l⟩] true [⟨.slice tVec,l.map negV⟩]:=by
 have c1:=areVecs_fn l
 rw [any_okV_f hl] at c1
 refine fn_enter tabOK mixes Tryz.func133 rfl rfl _ Tryz.ntmps133 _ Tryz.results133 (by simp) fun hwf=>?_
 try simp (maxSteps:=9^9) only[go_sem]
 repeat refine And.intro (by first|omega|(constructor<;>omega)|kernel_rfl) ?_
 refine CallW.mk (c1) ?_
 try simp (maxSteps:=9^9) only[go_sem]
 refine LoopG.intro _ _ _ (fun i:Nat=>⟨[(3,.row 0 0),(10,.sl tVec l),(11,.sc (.int .i64 l.length)),(12,.sc (.int .i64 i))],[(0,.row 78 tVec 0 true (mapi negV l i))]⟩) (fun i=>i<=l.length) (fun i=>l.length - i) 0 ?_ (Nat.zero_le _) ?_
 ·refine Wk.mk [] ?_
  try simp (maxSteps:=9^9) only[go_sem]
  try (and_intros<;>first|rfl|omega|exact ⟨_,rfl⟩)
 ·rintro i hi
  try simp (maxSteps:=9^9) only[go_sem]
  refine CondW_dec (fun hA=>?_) (fun hA=>?_)
  ·have hlt:i < l.length:=by omega
   have hml:=mapi_len (f:=negV) (l:=l) (i:=i) (by omega)
   have e:=mapi_step (f:=negV) hlt
   have hb:=okV_b (hl _ (nth_mem hlt))
   obtain ⟨b1,b2,b3,b4⟩:=hb
   try simp (maxSteps:=9^9) only[go_sem]
   repeat refine And.intro (by first|omega|(constructor<;>omega)|kernel_rfl) ?_
   try simp (maxSteps:=9^9) only[go_sem,hml]
   repeat refine And.intro (by first|omega|(constructor<;>omega)|kernel_rfl) ?_
   refine LoopK.mk (i+1) ?_ (by omega) (by omega)
   rw [e]
   unfold negV
   refine Wk.mk [] ?_
   try simp (maxSteps:=9^9) only[go_sem]
   try (and_intros<;>first|rfl|omega|exact ⟨_,rfl⟩)
   all_goals (first|exact ⟨by omega,rfl⟩|exact ⟨rfl,rfl⟩)
  ·rw [mapi_all (by omega)]
   try simp (maxSteps:=9^9) only[go_sem]
def addV (v c:DV):DV:=(c.1+v.1,c.2+v.2)
theorem moved_fn (l:List DV) (v:DV) (hv:okV v=true) (hl:∀ v ∈ l,okV v=true) (hn:l.length<=1048576):Fn Tryz.prog 158 [⟨.slice tVec,l⟩,⟨tVec,v⟩] true [⟨.slice tVec,l.map (addV v)⟩]:=by
 obtain ⟨q1,q2,q3,q4⟩:=okV_b hv
 refine fn_enter tabOK mixes Tryz.func158 rfl rfl _ Tryz.ntmps158 _ Tryz.results158 (by simp) fun hwf=>?_
 try simp (maxSteps:=9^9) only[go_sem]
 refine LoopG.intro _ _ _ (fun i:Nat=>⟨[(3,.ptr 0 0),(5,.row 1 0),(9,.sl tVec l),(10,.sc (.int .i64 l.length)),(11,.sc (.int .i64 i))],[(1,.row 78 tVec 0 true (mapi (addV v) l i)),(0,.box [.sc (.int .i64 v.1),.sc (.int .i64 v.2)])]⟩) (fun i=>i<=l.length) (fun i=>l.length - i) 0 ?_ (Nat.zero_le _) ?_
 ·refine Wk.mk [] ?_
  try simp (maxSteps:=9^9) only[go_sem]
  try (and_intros<;>first|rfl|omega|exact ⟨_,rfl⟩)
 ·rintro i hi
  try simp (maxSteps:=9^9) only[go_sem]
  refine CondW_dec (fun hA=>?_) (fun hA=>?_)
  ·have hlt:i < l.length:=by omega
   have hml:=mapi_len (f:=addV v) (l:=l) (i:=i) (by omega)
   have e:=mapi_step (f:=addV v) hlt
   obtain ⟨b1,b2,b3,b4⟩:=okV_b (hl _ (nth_mem hlt))
   try simp (maxSteps:=9^9) only[go_sem]
   repeat refine And.intro (by first|omega|(constructor<;>omega)|kernel_rfl) ?_
   try simp (maxSteps:=9^9) only[go_sem,hml]
   repeat refine And.intro (by first|omega|(constructor<;>omega)|kernel_rfl) ?_
   refine LoopK.mk (i+1) ?_ (by omega) (by omega)
   rw [e]
   unfold addV
   refine Wk.mk [] ?_
   try simp (maxSteps:=9^9) only[go_sem]
   try (and_intros<;>first|rfl|omega|exact ⟨_,rfl⟩)
   all_goals (first|exact ⟨by omega,rfl⟩|exact ⟨rfl,rfl⟩)
  ·rw [mapi_all (by omega)]
   try simp (maxSteps:=9^9) only[go_sem]
end Go.Proofs.YtaflkgjckmfkoaaGreat.DW

namespace Go.Proofs.YtaflkgjckmfkoaaGreat.DW
open Go.RowKit
theorem rv_len (b a:DV) (r:List DV):(b :: a :: r).reverse.length=r.length+2:=by rw [List.length_reverse]; rfl
theorem nth_app {l m:List DV} {x:DV} (k:Nat) (h:k=l.length):nth (t:=tVec) (l++x :: m) k=x:=by
 subst h
 rw [nth_lt (by simp)]
 simp
theorem rv_a (b a:DV) (r:List DV):nth (t:=tVec) (b :: a :: r).reverse r.length=a:=by
 rw [List.reverse_cons,List.reverse_cons,List.append_assoc]
 exact nth_app _ (by simp)
theorem rv_b (b a:DV) (r:List DV):nth (t:=tVec) (b :: a :: r).reverse (r.length+1)=b:=by
 rw [List.reverse_cons,List.reverse_cons]
 exact nth_app _ (by simp)
theorem rv_take (b a:DV) (r:List DV):(b :: a :: r).reverse.take (r.length+1)=(a :: r).reverse:=by
 rw [List.reverse_cons,List.take_append_of_le_length (by simp),List.take_of_length_le (by simp)]
theorem popD_go {v b a:DV} {r:List DV} (h:trn a b v<=0):popD v (b :: a :: r)=popD v (a :: r):=by
 rw [popD,if_pos h]
theorem popD_end {v b a:DV} {r:List DV} (h:¬ trn a b v<=0):popD v (b :: a :: r)=b :: a :: r:=by
 rw [popD,if_neg h]
theorem popD_1 {v:DV} {s:List DV} (h:s.length<=1):popD v s=s:=by
 match s,h with
 | [],_=>rfl
 | [a],_=>rfl
def popOK (v:DV) (s0 s:List DV):Prop:=popD v s=popD v s0/\(∀ x ∈ s,okV x=true)/\s.length<=s0.length
theorem trq_ok {a b c:DV} (ha:okV a=true) (hb:okV b=true) (hc:okV c=true):trq a b c=trn a b c:=by
 unfold trq
 rw [ha,hb,hc]; rfl
theorem chain_fn (l:List DV) (hl:∀ v ∈ l,okV v=true) (h0:0 < l.length) (hn:l.length<=1048576):FnG Tryz.prog 179 [⟨.slice tVec,l⟩] 78 tVec (chD l):=by
 refine fnG_enter tabOK mixes Tryz.func179 rfl rfl _ Tryz.ntmps179 _ Tryz.results179 (by simp) fun hwf=>?_
 try simp (maxSteps:=9^9) only[go_sem]
 refine LoopG.intro _ _ _ (fun i:Nat=>⟨[(3,.row 0 0),(7,.sl tVec l),(8,.sc (.int .i64 l.length)),(9,.sc (.int .i64 i))],[(0,.row 78 tVec 0 true (chRi l i).reverse)]⟩) (fun i=>i<=l.length) (fun i=>l.length - i) 0 ?_ (Nat.zero_le _) ?_
 ·refine Wk.mk [] ?_
  try simp (maxSteps:=9^9) only[go_sem]
  try (and_intros<;>first|rfl|omega|exact ⟨_,rfl⟩)
 ·rintro i hi
  try simp (maxSteps:=9^9) only[go_sem]
  refine CondW_dec (fun hA=>?_) (fun hA=>?_)
  ·have hlt:i < l.length:=by omega
   have hv:=hl _ (nth_mem hlt)
   have hst:=chRi_step hlt
   have hcl:=chRi_len l i
   try simp (maxSteps:=9^9) only[go_sem]
   repeat refine And.intro (by first|omega|(constructor<;>omega)|kernel_rfl) ?_
   generalize hvv:nth (t:=tVec) l i=v at hv hst ⊢
   refine LoopG.intro _ _ _ (fun s:List DV=>⟨[(3,.row 0 0),(5,.ptr 1 0),(7,.sl tVec l),(8,.sc (.int .i64 l.length)),(9,.sc (.int .i64 i))],[(1,.box [.sc (.int .i64 v.1),.sc (.int .i64 v.2)]),(0,.row 78 tVec 0 true s.reverse)]⟩) (popOK v (chRi l i)) (fun s=>s.length) (chRi l i) ?_ ⟨rfl,fun x hx=>hl _ (chRi_mem hx),Nat.le_refl _⟩ ?_
   ·refine Wk.mk [] ?_
    try simp (maxSteps:=9^9) only[go_sem]
    try (and_intros<;>first|rfl|omega|exact ⟨_,rfl⟩)
   ·rintro s ⟨k1,k2,k3⟩
    by_cases h1:s.length<=1
    ·have hrl:s.reverse.length=s.length:=List.length_reverse
     have d1:=decide_eq_false (p:=(s.reverse.length:Int) > 1) (by omega)
     try simp (maxSteps:=9^9) only[go_sem,d1]
     repeat refine And.intro (by first|omega|(constructor<;>omega)|kernel_rfl) ?_
     refine LoopK.mk (i+1) ?_ (by omega) (by omega)
     rw [hst,<-k1,popD_1 h1,List.reverse_cons]
     refine Wk.mk [] ?_
     try simp (maxSteps:=9^9) only[go_sem]
     try (and_intros<;>first|rfl|omega|exact ⟨_,rfl⟩)
     all_goals (first|exact ⟨by omega,rfl⟩|exact ⟨rfl,rfl⟩)
    ·obtain ⟨b,a,r,rfl⟩:∃ b a r,s=b :: a :: r:=by
      match s,h1 with
      | b :: a :: r,_=>exact ⟨b,a,r,rfl⟩
      | [a],h=>exact absurd (Nat.le_refl _) h
      | [],h=>exact absurd (Nat.zero_le _) h
     have ea:=rv_a b a r
     have eb:=rv_b b a r
     have et:=rv_take b a r
     have hrl:=rv_len b a r
     have oa:=k2 a (by simp)
     have ob:=k2 b (by simp)
     have hrc:(b :: a :: r).reverse++[v]=(v :: b :: a :: r).reverse:=(List.reverse_cons ..).symm
     have hls:(b :: a :: r).length=r.length+2:=rfl
     generalize hw:(b :: a :: r).reverse=w at ea eb et hrl hrc ⊢
     have d1:=decide_eq_true (p:=(w.length:Int) > 1) (by omega)
     have e2:((w.length:Int) - 2).toNat=r.length:=by omega
     have e1:((w.length:Int) - 1).toNat=r.length+1:=by omega
     have c1:=turn_fn (nth (t:=tVec) w ((w.length:Int) - 2).toNat) (nth (t:=tVec) w ((w.length:Int) - 1).toNat) v (by rw [e2,ea]; exact oa) (by rw [e1,eb]; exact ob) hv
     try simp (maxSteps:=9^9) only[go_sem,d1]
     repeat refine And.intro (by first|omega|(constructor<;>omega)|kernel_rfl) ?_
     refine CallW.mk (c1) ?_
     try simp (maxSteps:=9^9) only[go_sem]
     repeat refine And.intro (by first|omega|(constructor<;>omega)|kernel_rfl) ?_
     refine CondW_dec (fun hB=>?_) (fun hB=>?_)
     ·rw [e2,e1,ea,eb] at hB
      try simp (maxSteps:=9^9) only[go_sem]
      repeat refine And.intro (by first|omega|(constructor<;>omega)|kernel_rfl) ?_
      refine SlcW.cut (e:=78) (o:=true) ⟨rfl,rfl,?_⟩
      try simp (maxSteps:=9^9) only[go_sem]
      repeat refine And.intro (by first|omega|(constructor<;>omega)|kernel_rfl) ?_
      refine LoopK.mk (a :: r) ?_ ⟨(popD_go hB).symm.trans k1,fun x hx=>k2 x (List.mem_cons_of_mem _ hx),by simp at k3 ⊢; omega⟩ (by simp)
      rw [e1,et]
      refine Wk.mk [] ?_
      try simp (maxSteps:=9^9) only[go_sem]
      try (and_intros<;>first|rfl|omega|exact ⟨_,rfl⟩)
      all_goals (first|exact ⟨by omega,rfl⟩|exact ⟨rfl,rfl⟩|trace_state)
     ·rw [e2,e1,ea,eb] at hB
      try simp (maxSteps:=9^9) only[go_sem]
      repeat refine And.intro (by first|omega|(constructor<;>omega)|kernel_rfl) ?_
      refine LoopK.mk (i+1) ?_ (by omega) (by omega)
      rw [hst,<-k1,popD_end hB,hrc]
      refine Wk.mk [] ?_
      try simp (maxSteps:=9^9) only[go_sem]
      try (and_intros<;>first|rfl|omega|exact ⟨_,rfl⟩)
      all_goals (first|exact ⟨by omega,rfl⟩|exact ⟨rfl,rfl⟩)
  ·have hii:i=l.length:=by omega
   subst hii
   have hne:0 < (chRi l l.length).reverse.length:=by
    rw [List.length_reverse]
    have:=chRi_step (l:=l) (i:=l.length - 1) (by omega)
    rw [show l.length - 1+1=l.length by omega] at this
    rw [this]; simp
   have hcl:=chRi_len l l.length
   have hrl:(chRi l l.length).reverse.length=(chRi l l.length).length:=List.length_reverse
   have hcd:chD l=(chRi l l.length).reverse.take (((chRi l l.length).reverse.length:Int) - 1).toNat:=by
    unfold chD chRi
    rw [List.take_length,List.dropLast_eq_take]
    congr 1
    omega
   rw [hcd]
   generalize (chRi l l.length).reverse=w at hne hrl ⊢
   try simp (maxSteps:=9^9) only[go_sem]
   repeat refine And.intro (by first|omega|(constructor<;>omega)|kernel_rfl) ?_
   refine SlcW.cut (e:=78) (o:=true) ⟨rfl,rfl,?_⟩
   try simp (maxSteps:=9^9) only[go_sem]
   repeat refine And.intro (by first|omega|(constructor<;>omega)|kernel_rfl) ?_
   exact ⟨0,1,rfl,rfl⟩
theorem l06Chain_fn (l:List DV) (hl:∀ v ∈ l,okV v=true) (h0:0 < l.length) (hn:l.length<=1048576):Fn Tryz.prog 149 [⟨.slice tVec,l⟩] true [⟨.slice tVec,(chR l).reverse⟩]:=by
 refine fn_enter tabOK mixes Tryz.func149 rfl rfl _ Tryz.ntmps149 _ Tryz.results149 (by simp) fun hwf=>?_
 try simp (maxSteps:=9^9) only[go_sem]
 refine LoopG.intro _ _ _ (fun i:Nat=>⟨[(3,.row 0 0),(7,.sl tVec l),(8,.sc (.int .i64 l.length)),(9,.sc (.int .i64 i))],[(0,.row 78 tVec 0 true (chRi l i).reverse)]⟩) (fun i=>i<=l.length) (fun i=>l.length - i) 0 ?_ (Nat.zero_le _) ?_
 ·refine Wk.mk [] ?_
  try simp (maxSteps:=9^9) only[go_sem]
  try (and_intros<;>first|rfl|omega|exact ⟨_,rfl⟩)
 ·rintro i hi
  try simp (maxSteps:=9^9) only[go_sem]
  refine CondW_dec (fun hA=>?_) (fun hA=>?_)
  ·have hlt:i < l.length:=by omega
   have hv:=hl _ (nth_mem hlt)
   have hst:=chRi_step hlt
   have hcl:=chRi_len l i
   try simp (maxSteps:=9^9) only[go_sem]
   repeat refine And.intro (by first|omega|(constructor<;>omega)|kernel_rfl) ?_
   generalize hvv:nth (t:=tVec) l i=v at hv hst ⊢
   refine LoopG.intro _ _ _ (fun s:List DV=>⟨[(3,.row 0 0),(5,.ptr 1 0),(7,.sl tVec l),(8,.sc (.int .i64 l.length)),(9,.sc (.int .i64 i))],[(1,.box [.sc (.int .i64 v.1),.sc (.int .i64 v.2)]),(0,.row 78 tVec 0 true s.reverse)]⟩) (popOK v (chRi l i)) (fun s=>s.length) (chRi l i) ?_ ⟨rfl,fun x hx=>hl _ (chRi_mem hx),Nat.le_refl _⟩ ?_
   ·refine Wk.mk [] ?_
    try simp (maxSteps:=9^9) only[go_sem]
    try (and_intros<;>first|rfl|omega|exact ⟨_,rfl⟩)
   ·rintro s ⟨k1,k2,k3⟩
    by_cases h1:s.length<=1
    ·have hrl:s.reverse.length=s.length:=List.length_reverse
     have d1:=decide_eq_false (p:=(s.reverse.length:Int) > 1) (by omega)
     try simp (maxSteps:=9^9) only[go_sem,d1]
     repeat refine And.intro (by first|omega|(constructor<;>omega)|kernel_rfl) ?_
     refine LoopK.mk (i+1) ?_ (by omega) (by omega)
     rw [hst,<-k1,popD_1 h1,List.reverse_cons]
     refine Wk.mk [] ?_
     try simp (maxSteps:=9^9) only[go_sem]
     try (and_intros<;>first|rfl|omega|exact ⟨_,rfl⟩)
     all_goals (first|exact ⟨by omega,rfl⟩|exact ⟨rfl,rfl⟩)
    ·obtain ⟨b,a,r,rfl⟩:∃ b a r,s=b :: a :: r:=by
      match s,h1 with
      | b :: a :: r,_=>exact ⟨b,a,r,rfl⟩
      | [a],h=>exact absurd (Nat.le_refl _) h
      | [],h=>exact absurd (Nat.zero_le _) h
     have ea:=rv_a b a r
     have eb:=rv_b b a r
     have et:=rv_take b a r
     have hrl:=rv_len b a r
     have oa:=k2 a (by simp)
     have ob:=k2 b (by simp)
     have hrc:(b :: a :: r).reverse++[v]=(v :: b :: a :: r).reverse:=(List.reverse_cons ..).symm
     have hls:(b :: a :: r).length=r.length+2:=rfl
     generalize hw:(b :: a :: r).reverse=w at ea eb et hrl hrc ⊢
     have d1:=decide_eq_true (p:=(w.length:Int) > 1) (by omega)
     have e2:((w.length:Int) - 2).toNat=r.length:=by omega
     have e1:((w.length:Int) - 1).toNat=r.length+1:=by omega
     have c1:=Turn_fn (nth (t:=tVec) w ((w.length:Int) - 2).toNat) (nth (t:=tVec) w ((w.length:Int) - 1).toNat) v
     rw [trq_ok (by rw [e2,ea]; exact oa) (by rw [e1,eb]; exact ob) hv] at c1
     try simp (maxSteps:=9^9) only[go_sem,d1]
     repeat refine And.intro (by first|omega|(constructor<;>omega)|kernel_rfl) ?_
     refine CallW.mk (c1) ?_
     try simp (maxSteps:=9^9) only[go_sem]
     repeat refine And.intro (by first|omega|(constructor<;>omega)|kernel_rfl) ?_
     refine CondW_dec (fun hB=>?_) (fun hB=>?_)
     ·rw [e2,e1,ea,eb] at hB
      try simp (maxSteps:=9^9) only[go_sem]
      repeat refine And.intro (by first|omega|(constructor<;>omega)|kernel_rfl) ?_
      refine SlcW.cut (e:=78) (o:=true) ⟨rfl,rfl,?_⟩
      try simp (maxSteps:=9^9) only[go_sem]
      repeat refine And.intro (by first|omega|(constructor<;>omega)|kernel_rfl) ?_
      refine LoopK.mk (a :: r) ?_ ⟨(popD_go hB).symm.trans k1,fun x hx=>k2 x (List.mem_cons_of_mem _ hx),by simp at k3 ⊢; omega⟩ (by simp)
      rw [e1,et]
      refine Wk.mk [] ?_
      try simp (maxSteps:=9^9) only[go_sem]
      try (and_intros<;>first|rfl|omega|exact ⟨_,rfl⟩)
      all_goals (first|exact ⟨by omega,rfl⟩|exact ⟨rfl,rfl⟩|trace_state)
     ·rw [e2,e1,ea,eb] at hB
      try simp (maxSteps:=9^9) only[go_sem]
      repeat refine And.intro (by first|omega|(constructor<;>omega)|kernel_rfl) ?_
      refine LoopK.mk (i+1) ?_ (by omega) (by omega)
      rw [hst,<-k1,popD_end hB,hrc]
      refine Wk.mk [] ?_
      try simp (maxSteps:=9^9) only[go_sem]
      try (and_intros<;>first|rfl|omega|exact ⟨_,rfl⟩)
      all_goals (first|exact ⟨by omega,rfl⟩|exact ⟨rfl,rfl⟩)
  ·have hcr:(chR l).reverse=(chRi l i).reverse:=by
    unfold chRi
    rw [List.take_of_length_le (by omega)]
   rw [hcr]
   try simp (maxSteps:=9^9) only[go_sem]
end Go.Proofs.YtaflkgjckmfkoaaGreat.DW

namespace Go.Proofs.YtaflkgjckmfkoaaGreat.DW
open Go.RowKit
theorem l06Less_fn (a b:DV):Fn Tryz.prog 148 [⟨tVec,a⟩,⟨tVec,b⟩] false [⟨.bool,decide (ltV a b)⟩]:=by
 by_cases h1:a.1 < b.1
 ·have d1:=decide_eq_true h1
  rw [decide_eq_true (p:=ltV a b) (.inl h1)]
  refine fn_enter tabOK mixes Tryz.func148 rfl rfl _ Tryz.ntmps148 _ Tryz.results148 (by simp) fun hwf=>?_
  try simp (maxSteps:=9^9) only[go_sem,d1]
 ·have d1:=decide_eq_false h1
  by_cases h2:a.1=b.1
  ·have d2:=decide_eq_true h2
   have e:decide (ltV a b)=decide (a.2 < b.2):=by
    by_cases h3:a.2 < b.2
    ·rw [decide_eq_true h3,decide_eq_true (p:=ltV a b) (.inr ⟨h2,h3⟩)]
    ·rw [decide_eq_false h3,decide_eq_false (p:=ltV a b) (fun h=>by unfold ltV at h; omega)]
   rw [e]
   refine fn_enter tabOK mixes Tryz.func148 rfl rfl _ Tryz.ntmps148 _ Tryz.results148 (by simp) fun hwf=>?_
   try simp (maxSteps:=9^9) only[go_sem,d1,d2]
  ·have d2:=decide_eq_false h2
   rw [decide_eq_false (p:=ltV a b) (fun h=>by unfold ltV at h; omega)]
   refine fn_enter tabOK mixes Tryz.func148 rfl rfl _ Tryz.ntmps148 _ Tryz.results148 (by simp) fun hwf=>?_
   try simp (maxSteps:=9^9) only[go_sem,d1,d2]
def bkD (l:List DV) (n:Nat):List DV:=l.reverse.take n
theorem bkD_step {l:List DV} {n:Nat} (h:n < l.length):bkD l (n+1)=bkD l n++[nth (t:=tVec) l (l.length - 1 - n)]:=by
 unfold bkD
 rw [List.take_add_one,List.getElem?_eq_getElem (by rw [List.length_reverse]; exact h),List.getElem_reverse,nth_lt (by omega)]
 rfl
theorem bkD_len {l:List DV} {n:Nat} (h:n<=l.length):(bkD l n).length=n:=by
 unfold bkD; rw [List.length_take,List.length_reverse]; omega
theorem bkD_all {l:List DV} {n:Nat} (h:l.length<=n):bkD l n=l.reverse:=by
 unfold bkD; rw [List.take_of_length_le (by rw [List.length_reverse]; exact h)]
theorem hullD_lt3 {l:List DV} (h:(srtD l).length < 3):hullD l=srtD l:=by
 unfold hullD
 split
 ·rfl
 ·match hs:srtD l,h with
  | [],_=>rfl
  | [a],_=>exact absurd (show (srtD l).length < 2 by rw [hs]; exact Nat.lt_succ_self _) (by assumption)
  | [a,b],_=>rfl
theorem chD_take (l:List DV):chD l=(chR l).reverse.take ((chR l).reverse.length - 1):=List.dropLast_eq_take
theorem chR_len (l:List DV):(chR l).length<=l.length:=by
 have:=chRi_len l l.length
 unfold chRi at this
 rwa [List.take_length] at this
theorem chR_pos (l:List DV) (h:0 < l.length):0 < (chR l).length:=by
 have:=chRi_step (l:=l) (i:=l.length - 1) (by omega)
 rw [show l.length - 1+1=l.length by omega] at this
 unfold chRi at this
 rw [List.take_length] at this
 rw [this]; simp
set_option maxRecDepth 100000 in
set_option maxHeartbeats 1000000 in
theorem specHull_fn (l:List DV) (hl:∀ v ∈ l,okV v=true) (hn:l.length<=64):Fn Tryz.prog 118 [⟨.slice tVec,l⟩] true [⟨.slice tVec,hullD l⟩]:=by
 have d0:=decide_eq_false (p:=(l.length:Int) > 64) (by omega)
 refine fn_enter tabOK mixes Tryz.func118 rfl rfl _ Tryz.ntmps118 _ Tryz.results118 (by simp) fun hwf=>?_
 try simp (maxSteps:=9^9) only[go_sem,d0]
 refine LoopG.intro _ _ _ (fun i:Nat=>⟨[(3,.row 0 0),(17,.sl tVec l),(18,.sc (.int .i64 l.length)),(19,.sc (.int .i64 i))],[(0,.row 78 tVec 0 true (srtI l i))]⟩) (fun i=>i<=l.length) (fun i=>l.length - i) 0 ?_ (Nat.zero_le _) ?_
 ·refine Wk.mk [] ?_
  try simp (maxSteps:=9^9) only[go_sem]
  try (and_intros<;>first|rfl|omega|exact ⟨_,rfl⟩)
 ·rintro i hi
  try simp (maxSteps:=9^9) only[go_sem]
  refine CondW_dec (fun hA=>?_) (fun hA=>?_)
  ·have hlt:i < l.length:=by omega
   have hv:=hl _ (nth_mem hlt)
   have hst:=srtI_step hlt
   have hcl:=srtI_len l i
   have c1:=IsValidVec_fn (nth (t:=tVec) l i)
   rw [hv] at c1
   generalize hvv:nth (t:=tVec) l i=v at hv hst c1 ⊢
   generalize hss:srtI l i=s at hst hcl ⊢
   try simp (maxSteps:=9^9) only[go_sem,hvv]
   repeat refine And.intro (by first|omega|(constructor<;>omega)|kernel_rfl) ?_
   refine CallW.mk (c1) ?_
   try simp (maxSteps:=9^9) only[go_sem]
   refine LoopG.intro _ _ _ (fun j:Nat=>⟨[(3,.row 0 0),(5,.ptr 1 0),(6,.sc (.int .i64 j)),(17,.sl tVec l),(18,.sc (.int .i64 l.length)),(19,.sc (.int .i64 i))],[(1,.box [.sc (.int .i64 v.1),.sc (.int .i64 v.2)]),(0,.row 78 tVec 0 true s)]⟩) (fun j=>j<=s.length/\∀ j',j' < j->ltV (nth (t:=tVec) s j') v) (fun j=>s.length - j) 0 ?_ ⟨Nat.zero_le _,fun j h=>absurd h (Nat.not_lt_zero _)⟩ ?_
   ·refine Wk.mk [] ?_
    try simp (maxSteps:=9^9) only[go_sem]
    try (and_intros<;>first|rfl|omega|exact ⟨_,rfl⟩)
   ·rintro j ⟨k1,k2⟩
    have hins:=insD_at (p:=v) (l:=s) (i:=j) k1 k2
    have e5:s.take j++v :: s.drop j=s.take j++[v]++s.drop j:=by rw [List.append_assoc]; rfl
    have hlm:(s.take j).length=j:=by rw [List.length_take]; omega
    have hlm2:(s.take j++[v]).length=j+1:=by rw [List.length_append,hlm]; rfl
    have hlm3:(s.drop j).length=s.length - j:=List.length_drop
    by_cases hj:j < s.length
    ·have d1:=decide_eq_true (p:=(j:Int) < (s.length:Int)) (by omega)
     have c2:=l06Less_fn (nth (t:=tVec) s j) v
     by_cases hlt2:ltV (nth (t:=tVec) s j) v
     ·rw [decide_eq_true hlt2] at c2
      try simp (maxSteps:=9^9) only[go_sem,d1]
      repeat refine And.intro (by first|omega|(constructor<;>omega)|kernel_rfl) ?_
      refine CallW.mk (c2) ?_
      try simp (maxSteps:=9^9) only[go_sem]
      repeat refine And.intro (by first|omega|(constructor<;>omega)|kernel_rfl) ?_
      refine LoopK.mk (j+1) ?_ ⟨by omega,fun j' hj'=>?_⟩ (by omega)
      ·refine Wk.mk [] ?_
       try simp (maxSteps:=9^9) only[go_sem]
       try (and_intros<;>first|rfl|omega|exact ⟨_,rfl⟩)
      ·by_cases h:j' < j
       ·exact k2 j' h
       ·rw [show j'=j by omega]; exact hlt2
     ·rw [decide_eq_false hlt2] at c2
      have hins:=hins fun _=>hlt2
      by_cases he:nth (t:=tVec) s j=v
      ·have e3:(decide ((nth (t:=tVec) s j).1=v.1) && decide ((nth (t:=tVec) s j).2=v.2))=true:=by rw [he]; simp
       rw [if_pos ⟨hj,he⟩] at hins
       try simp (maxSteps:=9^9) only[go_sem,d1]
       repeat refine And.intro (by first|omega|(constructor<;>omega)|kernel_rfl) ?_
       refine CallW.mk (c2) ?_
       try simp (maxSteps:=9^9) only[go_sem]
       repeat refine And.intro (by first|omega|(constructor<;>omega)|kernel_rfl) ?_
       try simp (maxSteps:=9^9) only[go_sem,d1,e3]
       repeat refine And.intro (by first|omega|(constructor<;>omega)|kernel_rfl) ?_
       refine LoopK.mk (i+1) ?_ (by omega) (by omega)
       rw [hst,hins]
       refine Wk.mk [] ?_
       try simp (maxSteps:=9^9) only[go_sem]
       try (and_intros<;>first|rfl|omega|exact ⟨_,rfl⟩)
      ·have e3:(decide ((nth (t:=tVec) s j).1=v.1) && decide ((nth (t:=tVec) s j).2=v.2))=false:=by
        by_cases q1:(nth (t:=tVec) s j).1=v.1
        ·by_cases q2:(nth (t:=tVec) s j).2=v.2
         ·exact absurd (Prod.ext q1 q2) he
         ·rw [decide_eq_false q2,Bool.and_false]
        ·rw [decide_eq_false q1,Bool.false_and]
       rw [if_neg (fun h=>he h.2)] at hins
       try simp (maxSteps:=9^9) only[go_sem,d1]
       repeat refine And.intro (by first|omega|(constructor<;>omega)|kernel_rfl) ?_
       refine CallW.mk (c2) ?_
       try simp (maxSteps:=9^9) only[go_sem]
       repeat refine And.intro (by first|omega|(constructor<;>omega)|kernel_rfl) ?_
       try simp (maxSteps:=9^9) only[go_sem,d1,e3]
       repeat refine And.intro (by first|omega|(constructor<;>omega)|kernel_rfl) ?_
       refine SlcW.keep ?_
       try simp (maxSteps:=9^9) only[go_sem]
       repeat refine And.intro (by first|omega|(constructor<;>omega)|kernel_rfl) ?_
       refine SlcW.keep ?_
       try simp (maxSteps:=9^9) only[go_sem,List.take_length]
       repeat refine And.intro (by first|omega|(constructor<;>omega)|kernel_rfl) ?_
       refine LoopK.mk (i+1) ?_ (by omega) (by omega)
       rw [hst,hins,e5]
       refine Wk.mk [(0,2)] ?_
       try simp (maxSteps:=9^9) only[go_sem]
       try (and_intros<;>first|rfl|omega|exact ⟨_,rfl⟩)
       all_goals (first|exact ⟨by omega,rfl⟩|exact ⟨rfl,rfl⟩)
    ·have d1:=decide_eq_false (p:=(j:Int) < (s.length:Int)) (by omega)
     have hins:=hins fun h=>absurd h hj
     rw [if_neg (fun h=>hj h.1)] at hins
     try simp (maxSteps:=9^9) only[go_sem,d1]
     repeat refine And.intro (by first|omega|(constructor<;>omega)|kernel_rfl) ?_
     try simp (maxSteps:=9^9) only[go_sem,d1]
     repeat refine And.intro (by first|omega|(constructor<;>omega)|kernel_rfl) ?_
     refine SlcW.keep ?_
     try simp (maxSteps:=9^9) only[go_sem]
     repeat refine And.intro (by first|omega|(constructor<;>omega)|kernel_rfl) ?_
     refine SlcW.keep ?_
     try simp (maxSteps:=9^9) only[go_sem,List.take_length]
     repeat refine And.intro (by first|omega|(constructor<;>omega)|kernel_rfl) ?_
     refine LoopK.mk (i+1) ?_ (by omega) (by omega)
     rw [hst,hins,e5]
     refine Wk.mk [(0,2)] ?_
     try simp (maxSteps:=9^9) only[go_sem]
     try (and_intros<;>first|rfl|omega|exact ⟨_,rfl⟩)
     all_goals (first|exact ⟨by omega,rfl⟩|exact ⟨rfl,rfl⟩)
  ·have hii:i=l.length:=by omega
   subst hii
   rw [srtI_all]
   have hsm:∀ v ∈ srtD l,okV v=true:=fun v hv=>hl v (srtD_mem.1 hv)
   have hsl:=srtD_len l
   by_cases h3:(srtD l).length < 3
   ·rw [hullD_lt3 h3]
    generalize srtD l=s at h3 hsl ⊢
    have d3:=decide_eq_true (p:=(s.length:Int) < 3) (by omega)
    try simp (maxSteps:=9^9) only[go_sem,d3]
   ·have hh:hullD l=chD (srtD l)++chD (srtD l).reverse:=by unfold hullD; rw [if_neg (by omega)]
    rw [hh,chD_take,chD_take]
    generalize srtD l=s at h3 hsl hsm ⊢
    have d3:=decide_eq_false (p:=(s.length:Int) < 3) (by omega)
    have hrl:s.reverse.length=s.length:=List.length_reverse
    have c3:=l06Chain_fn s hsm (by omega) (by omega)
    have c4:=l06Chain_fn s.reverse (fun v hv=>hsm v (List.mem_reverse.1 hv)) (by omega) (by omega)
    try simp (maxSteps:=9^9) only[go_sem,d3]
    repeat refine And.intro (by first|omega|(constructor<;>omega)|kernel_rfl) ?_
    refine LoopG.intro _ _ _ (fun n:Nat=>⟨[(3,.row 0 0),(8,.row 1 0),(9,.sc (.int .i64 ((s.length:Int) - 1 - n)))],[(1,.row 78 tVec 0 true (bkD s n)),(0,.row 78 tVec 0 true s)]⟩) (fun n=>n<=s.length) (fun n=>s.length - n) 0 ?_ (Nat.zero_le _) ?_
    ·refine Wk.mk [] ?_
     try simp (maxSteps:=9^9) only[go_sem]
     try (and_intros<;>first|rfl|omega|exact ⟨_,rfl⟩)
    ·rintro n hn2
     try simp (maxSteps:=9^9) only[go_sem]
     refine CondW_dec (fun hB=>?_) (fun hB=>?_)
     ·have hbl:=bkD_len (l:=s) (n:=n) (by omega)
      have hbs:=bkD_step (l:=s) (n:=n) (by omega)
      have ei:((s.length:Int) - 1 - n).toNat=s.length - 1 - n:=by omega
      try simp (maxSteps:=9^9) only[go_sem]
      repeat refine And.intro (by first|omega|(constructor<;>omega)|kernel_rfl) ?_
      rw [ei]
      try simp (maxSteps:=9^9) only[go_sem,hbl]
      repeat refine And.intro (by first|omega|(constructor<;>omega)|kernel_rfl) ?_
      refine LoopK.mk (n+1) ?_ (by omega) (by omega)
      rw [hbs]
      refine Wk.mk [] ?_
      try simp (maxSteps:=9^9) only[go_sem]
      try (and_intros<;>first|rfl|omega|exact ⟨_,rfl⟩)
     ·rw [bkD_all (by omega)]
      have q1:=chR_len s
      have q2:=chR_pos s (by omega)
      have q3:=chR_len s.reverse
      have q4:=chR_pos s.reverse (by omega)
      have q5:(chR s).reverse.length=(chR s).length:=List.length_reverse
      have q6:(chR s.reverse).reverse.length=(chR s.reverse).length:=List.length_reverse
      generalize (chR s).reverse=lo at c3 q5 ⊢
      generalize (chR s.reverse).reverse=hi at c4 q6 ⊢
      have e7:((lo.length:Int) - 1).toNat=lo.length - 1:=by omega
      have e8:((hi.length:Int) - 1).toNat=hi.length - 1:=by omega
      have q7:(lo.take (lo.length - 1)).length=lo.length - 1:=by rw [List.length_take]; omega
      have q8:(hi.take (hi.length - 1)).length=hi.length - 1:=by rw [List.length_take]; omega
      try simp (maxSteps:=9^9) only[go_sem]
      repeat refine And.intro (by first|omega|(constructor<;>omega)|kernel_rfl) ?_
      refine CallW.mk (c3) ?_
      try simp (maxSteps:=9^9) only[go_sem]
      repeat refine And.intro (by first|omega|(constructor<;>omega)|kernel_rfl) ?_
      refine CallW.mk (c4) ?_
      try simp (maxSteps:=9^9) only[go_sem]
      repeat refine And.intro (by first|omega|(constructor<;>omega)|kernel_rfl) ?_
      refine SlcW.keep ?_
      try simp (maxSteps:=9^9) only[go_sem]
      rw [e7]
      try simp (maxSteps:=9^9) only[go_sem,q7]
      repeat refine And.intro (by first|omega|(constructor<;>omega)|kernel_rfl) ?_
      refine SlcW.keep ?_
      try simp (maxSteps:=9^9) only[go_sem]
      rw [e8]
      try simp (maxSteps:=9^9) only[go_sem,q7,q8]
      repeat refine And.intro (by first|omega|(constructor<;>omega)|kernel_rfl) ?_
      try simp (maxSteps:=9^9) only[go_sem,q7,q8]
      omega
end Go.Proofs.YtaflkgjckmfkoaaGreat.DW

namespace Go.Proofs.YtaflkgjckmfkoaaGreat.DW
open Go.RowKit Go.Sort
def encV (x:Int × Int):List Value:=[.int .i64 x.1,.int .i64 x.2]
theorem rep_vec {w:World} {cs:List Value} {x:DV} {f:List Nat} (h:tVec.rp.rep w cs x f):cs=encV x/\f=[]/\I64 x.1/\I64 x.2:=by
 obtain ⟨c1,c2,f1,f2,rfl,rfl,⟨rfl,rfl,h1⟩,⟨rfl,rfl,h2⟩⟩:=h
 exact ⟨rfl,rfl,h1,h2⟩
theorem vec_rep {w:World} {x:DV} (h1:I64 x.1) (h2:I64 x.2):tVec.rp.rep w (encV x) x [] :=
 ⟨_,_,[],[],rfl,rfl,⟨rfl,rfl,h1⟩,⟨rfl,rfl,h2⟩⟩
theorem vec_size:tVec.rp.size=2:=rfl
theorem encV_at (x:DV) (j:Nat) (h:j < 2):(encV x)[j]? = some ((encV x)[j]!):=by
 match j,h with
 | 0,_=>rfl
 | 1,_=>rfl
theorem flat_at (l:List DV) {t:Nat} (h:t < l.length * 2):(flatK encV 2 l.toArray)[t]! = (encV (l[t / 2]'(by omega)))[t % 2]!:=by
 rw [get_flatK encV 2 l.toArray t (by simpa using h)]
 rw [getElem!_pos l.toArray (t / 2) (by simp; omega)]
 rfl
theorem row_in {base:Nat} {w:World} {e:TypeId} {v:Value} {l:List DV} {fps:List (List Nat)} (h:GrowF tVec.rp base w e v l fps) (h0:0 < l.length) :
  ∃ g cap cur,v=.slice (some ⟨g,0,none⟩) l.length cap/\base<=g/\w.heap[g]? = some (.cells cur e (0,0))/\l.length<=cap/\cap<=maxLen/\cur.size=cap * 2/\HoldsK encV 2 w g 0 l.toArray/\∀ x ∈ l,I64 x.1/\I64 x.2:=by
 obtain ⟨xs,⟨hxl,hor⟩,hfl,he⟩:=h
 rcases hor with ⟨_,hn⟩|⟨g,cap,cur,hv,hb,hg,hnc,hcm,hcs,htk⟩
 ·omega
 rw [vec_size] at hxl hcs htk
 refine ⟨g,cap,cur,hv,hb,hg,hnc,hcm,hcs,fun j hj=>?_,fun x hx=>?_⟩
 ·have hj2:j < l.length * 2:=by simpa using hj
  refine ⟨?_,frozen_of_row w g _ cur e hg⟩
  rw [Nat.zero_add,cell_of_row w g j cur e (0,0) hg,<-Array.getElem?_toList]
  show _=some ((flatK encV 2 l.toArray)[j]!)
  rw [flat_at l hj2]
  obtain ⟨f,cs,_,h2,h3⟩:=he (j / 2) (l[j / 2]'(by omega)) (List.getElem?_eq_getElem _)
  obtain ⟨rfl,_⟩:=rep_vec h2
  have:=h3 (j % 2) _ (encV_at _ (j % 2) (by omega))
  rw [vec_size,show j / 2 * 2+j % 2=j by omega,<-htk,List.getElem?_take,if_pos hj2] at this
  exact this
 ·obtain ⟨i,hi,rfl⟩:=List.getElem_of_mem hx
  obtain ⟨f,cs,_,h2,_⟩:=he i l[i] (List.getElem?_eq_getElem hi)
  exact (rep_vec h2).2.2
theorem row_out {base:Nat} {w w':World} {e:TypeId} {g cap n:Nat} {cur:Array Value} {os:Array Obj} {d:List DV} (hb:base<=g) (hg:w.heap[g]? = some (.cells cur e (0,0))) (hcs:cur.size=cap * 2) (hcm:cap<=maxLen) (hd:d.length<=cap) (hI:∀ x ∈ d,I64 x.1/\I64 x.2) (m:Nat) (hm:m<=d.length)
  (hw:w'=sortWorldK encV 2 w g 0 n d.toArray os) :
  GrowF tVec.rp base w' e (.slice (some ⟨g,0,none⟩) m cap) (d.take m) (List.replicate m [])/\w.grownBy w' (some g):=by
 have hgs:g < w.heap.size:=(Array.getElem?_eq_some_iff.1 hg).1
 have hg':w'.heap[g]? = some (.cells (Go.Sort.putCells id 0 (flatK encV 2 d.toArray) cur) e (0,0)):=by
  subst hw
  unfold sortWorldK putRowK putRow mapBlock grow
  have hsz:g < (Sort.ahead w n).heap.size:=hgs
  simp only [heap_ahead]
  rw [Array.getElem?_append_left (by rw [Array.size_modify]; exact hgs),Array.getElem?_modify,if_pos rfl,hg]
  rfl
 have hlt:(d.take m).length=m:=by rw [List.length_take]; omega
 have hcell:∀ t,t < d.length * 2->(Go.Sort.putCells id 0 (flatK encV 2 d.toArray) cur).toList[t]? = some ((flatK encV 2 d.toArray)[t]!):=by
  intro t ht
  rw [Array.getElem?_toList]
  unfold Go.Sort.putCells
  rw [Array.getElem?_mapIdx,Array.getElem?_eq_getElem (by omega:t < cur.size),Option.map_some,if_pos ⟨Nat.zero_le _,by rw [size_flatK]; simpa using ht⟩]
  rfl
 have hps:(Go.Sort.putCells id 0 (flatK encV 2 d.toArray) cur).size=cap * 2:=by unfold Go.Sort.putCells; rw [Array.size_mapIdx,hcs]
 refine ⟨⟨(Go.Sort.putCells id 0 (flatK encV 2 d.toArray) cur).toList.take (m * 2),⟨?_,.inr ⟨g,cap,_,?_,hb,hg',?_,hcm,hps,?_⟩⟩,?_,fun i x hx=>?_⟩,?_⟩
 ·rw [hlt,vec_size,List.length_take,Array.length_toList,hps]; omega
 ·rw [hlt]
 ·rw [hlt]; omega
 ·rw [hlt,vec_size]
 ·rw [hlt,List.length_replicate]
 ·have hi:i < m:=by have:=(List.getElem?_eq_some_iff.1 hx).1; omega
  rw [List.getElem?_take,if_pos hi] at hx
  obtain ⟨hid,hx⟩:=List.getElem?_eq_some_iff.1 hx
  subst hx
  obtain ⟨i1,i2⟩:=hI _ (List.getElem_mem hid)
  refine ⟨[],encV d[i],by simp [hi],vec_rep i1 i2,fun j v hj=>?_⟩
  have hj2:j < 2:=(List.getElem?_eq_some_iff.1 hj).1
  rw [vec_size,List.getElem?_take,if_pos (by omega),hcell _ (by omega),flat_at d (by omega)]
  have e1:(i * 2+j) / 2=i:=by omega
  have e2:(i * 2+j) % 2=j:=by omega
  simp only [e1,e2]
  rw [<-encV_at _ j hj2,hj]
 ·subst hw
  refine ⟨rfl,rfl,rfl,?_,fun k hk hne=>?_⟩
  ·rw [sortWorldK,size_grow]
   have:(putRowK encV 2 (Sort.ahead w n) g 0 d.toArray).heap.size=w.heap.size:=by unfold putRowK; rw [size_putRow]; rfl
   omega
  ·have hkg:g ≠ k:=fun h=>hne (by rw [h])
   unfold sortWorldK putRowK putRow mapBlock grow
   simp only [heap_ahead]
   rw [Array.getElem?_append_left (by rw [Array.size_modify]; exact hk),Array.getElem?_modify,if_neg hkg]
theorem FnR.of {P:Program} {f:FuncId} {xs:List Cst} {e:TypeId} {l l':List DV} (he:∀ vs w,(callFunc f vs).run P w=.ok (.enter f vs) w) (h0:0 < l.length) (ret:Bool) (d:(∀ x ∈ l,I64 x.1/\I64 x.2)->∀ (w:World) (g cap:Nat),g < w.heap.size->l.length<=cap->cap<=maxLen->HoldsK encV 2 w g 0 l.toArray →
   Calls P f (.slice (some ⟨g,0,none⟩) l.length cap :: xs.map Cst.val).toArray w fun en w'=>∃ (dd:List DV) (n:Nat) (os:Array Obj),en=.returned (if ret then .slice (some ⟨g,0,none⟩) l'.length cap else .tuple #[])/\(ret=false->l'.length=l.length)/\dd.length=l.length/\(∀ x ∈ dd,x ∈ l\/x=(0,0))/\l'=dd.take l'.length/\l'.length<=dd.length/\w'=sortWorldK encV 2 w g 0 n dd.toArray os):FnR P f xs e tVec l l' ret:=by
 refine ⟨he,rfl,fun w base v fps hone hgr=>?_⟩
 obtain ⟨g,cap,cur,rfl,hb,hg,hnc,hcm,hcs,hH,hI⟩:=row_in hgr h0
 refine (d hI w g cap (Array.getElem?_eq_some_iff.1 hg).1 hnc hcm hH).mono ?_
 rintro en w' ⟨dd,n,os,h1,h2,h3,h4,h5,h6,h7⟩
 have hI2:∀ x ∈ dd,I64 x.1/\I64 x.2:=fun x hx=>by
  rcases h4 x hx with h|rfl
  ·exact hI x h
  ·exact ⟨(by show I64 0; unfold I64; omega),(by show I64 0; unfold I64; omega)⟩
 obtain ⟨k1,k2⟩:=row_out (base:=base) hb hg hcs hcm (by omega) hI2 l'.length h6 h7
 rw [<-h5] at k1
 exact ⟨.slice (some ⟨g,0,none⟩) l'.length cap,_,h1,fun hr=>by rw [h2 hr],rfl,rfl,k1,k2⟩
end Go.Proofs.YtaflkgjckmfkoaaGreat.DW

namespace Go.Proofs.YtaflkgjckmfkoaaGreat.DW
open Go.RowKit Go.Shelf
def sortL_ren:Go.Shelf.Ren:=⟨fun|6=>176|14=>184|15=>185|20=>187|21=>188|22=>189|23=>190|24=>191|25=>192|26=>193|27=>194|28=>195|29=>196|46=>197|47=>198|48=>199|49=>200|50=>201|57=>202|n=>n,fun|0=>0|3=>3|4=>4|5=>5|9=>9|22=>43|23=>153|24=>78|25=>154|39=>90|45=>161|46=>162|47=>163|50=>149|53=>168|55=>170|66=>171|70=>175|76=>177|77=>178|n=>n,fun n=>n⟩
theorem sortL:SlLaysF0.n6 Tryz.prog sortL_ren where
 mixed:=by kernel_rfl
 f6:=⟨"slices.SortFunc[[]loop.example/g00811/impl.Vec,loop.example/g00811/impl.Vec]",by decide,Tryz.func176.trans (congrArg some (by kernel_rfl))⟩
 f14:=⟨"slices.pdqsortCmpFunc[loop.example/g00811/impl.Vec]",by decide,Tryz.func184.trans (congrArg some (by kernel_rfl))⟩
 f15:=Tryz.func185.trans (congrArg some (by kernel_rfl))
 f20:=⟨"slices.insertionSortCmpFunc[loop.example/g00811/impl.Vec]",by decide,Tryz.func187.trans (congrArg some (by kernel_rfl))⟩
 f21:=⟨"slices.heapSortCmpFunc[loop.example/g00811/impl.Vec]",by decide,Tryz.func188.trans (congrArg some (by kernel_rfl))⟩
 f22:=⟨"slices.breakPatternsCmpFunc[loop.example/g00811/impl.Vec]",by decide,Tryz.func189.trans (congrArg some (by kernel_rfl))⟩
 f23:=⟨"slices.choosePivotCmpFunc[loop.example/g00811/impl.Vec]",by decide,Tryz.func190.trans (congrArg some (by kernel_rfl))⟩
 f24:=⟨"slices.reverseRangeCmpFunc[loop.example/g00811/impl.Vec]",by decide,Tryz.func191.trans (congrArg some (by kernel_rfl))⟩
 f25:=⟨"slices.partialInsertionSortCmpFunc[loop.example/g00811/impl.Vec]",by decide,Tryz.func192.trans (congrArg some (by kernel_rfl))⟩
 f26:=⟨"slices.partitionEqualCmpFunc[loop.example/g00811/impl.Vec]",by decide,Tryz.func193.trans (congrArg some (by kernel_rfl))⟩
 f27:=⟨"slices.partitionCmpFunc[loop.example/g00811/impl.Vec]",by decide,Tryz.func194.trans (congrArg some (by kernel_rfl))⟩
 f28:=Tryz.func195.trans (congrArg some (by kernel_rfl))
 f29:=Tryz.func196.trans (congrArg some (by kernel_rfl))
 f46:=⟨"slices.siftDownCmpFunc[loop.example/g00811/impl.Vec]",by decide,Tryz.func197.trans (congrArg some (by kernel_rfl))⟩
 f47:=Tryz.func198.trans (congrArg some (by kernel_rfl))
 f48:=Tryz.func199.trans (congrArg some (by kernel_rfl))
 f49:=⟨"slices.medianAdjacentCmpFunc[loop.example/g00811/impl.Vec]",by decide,Tryz.func200.trans (congrArg some (by kernel_rfl))⟩
 f50:=⟨"slices.medianCmpFunc[loop.example/g00811/impl.Vec]",by decide,Tryz.func201.trans (congrArg some (by kernel_rfl))⟩
 f57:=⟨"slices.order2CmpFunc[loop.example/g00811/impl.Vec]",by decide,Tryz.func202.trans (congrArg some (by kernel_rfl))⟩
 t0:=Tryz.underlying0
 a0:=Tryz.isAgg0
 z0:=Tryz.sizeOf0
 v0:=Tryz.zeroValue0
 t3:=Tryz.underlying3
 a3:=Tryz.isAgg3
 z3:=Tryz.sizeOf3
 v3:=Tryz.zeroValue3
 t4:=Tryz.underlying4
 a4:=Tryz.isAgg4
 z4:=Tryz.sizeOf4
 v4:=Tryz.zeroValue4
 t5:=Tryz.underlying5
 a5:=Tryz.isAgg5
 z5:=Tryz.sizeOf5
 v5:=Tryz.zeroValue5
 t9:=Tryz.underlying9
 a9:=Tryz.isAgg9
 z9:=Tryz.sizeOf9
 v9:=Tryz.zeroValue9
 t22:=Tryz.underlying43
 a22:=Tryz.isAgg43
 z22:=Tryz.sizeOf43
 v22:=Tryz.zeroValue43
 t25:=Tryz.underlying154
 a25:=Tryz.isAgg154
 z25:=Tryz.sizeOf154
 v25:=Tryz.zeroValue154
 t39:=Tryz.underlying90
 a39:=Tryz.isAgg90
 z39:=Tryz.sizeOf90
 v39:=Tryz.zeroValue90
 t45:=Tryz.underlying161
 a45:=Tryz.isAgg161
 z45:=Tryz.sizeOf161
 v45:=Tryz.zeroValue161
 t46:=Tryz.underlying162
 a46:=Tryz.isAgg162
 z46:=Tryz.sizeOf162
 v46:=Tryz.zeroValue162
 t50:=Tryz.underlying149
 a50:=Tryz.isAgg149
 z50:=Tryz.sizeOf149
 v50:=Tryz.zeroValue149
 t53:=Tryz.underlying168
 a53:=Tryz.isAgg168
 z53:=Tryz.sizeOf168
 v53:=Tryz.zeroValue168
 t55:=Tryz.underlying170
 a55:=Tryz.isAgg170
 z55:=Tryz.sizeOf170
 v55:=Tryz.zeroValue170
 t66:=Tryz.underlying171
 a66:=Tryz.isAgg171
 z66:=Tryz.sizeOf171
 v66:=Tryz.zeroValue171
 t70:=Tryz.underlying175
 a70:=Tryz.isAgg175
 z70:=Tryz.sizeOf175
 v70:=Tryz.zeroValue175
 t76:=Tryz.underlying177
 a76:=Tryz.isAgg177
 z76:=Tryz.sizeOf177
 v76:=Tryz.zeroValue177
 t77:=Tryz.underlying178
 a77:=Tryz.isAgg178
 z77:=Tryz.sizeOf178
 v77:=Tryz.zeroValue178
def revL_ren:Go.Shelf.Ren:=⟨fun|35=>180|n=>n,fun|0=>0|3=>3|4=>4|22=>43|23=>78|n=>n,fun n=>n⟩
theorem revL:SlLaysE0.n35 Tryz.prog revL_ren where
 mixed:=by kernel_rfl
 f35:=⟨"slices.Reverse[[]loop.example/g00811/impl.Vec,loop.example/g00811/impl.Vec]",by decide,Tryz.func180.trans (congrArg some (by kernel_rfl))⟩
 t0:=Tryz.underlying0
 a0:=Tryz.isAgg0
 z0:=Tryz.sizeOf0
 v0:=Tryz.zeroValue0
 t3:=Tryz.underlying3
 a3:=Tryz.isAgg3
 z3:=Tryz.sizeOf3
 v3:=Tryz.zeroValue3
 t4:=Tryz.underlying4
 a4:=Tryz.isAgg4
 z4:=Tryz.sizeOf4
 v4:=Tryz.zeroValue4
 t22:=Tryz.underlying43
 a22:=Tryz.isAgg43
 z22:=Tryz.sizeOf43
 v22:=Tryz.zeroValue43
end Go.Proofs.YtaflkgjckmfkoaaGreat.DW

namespace Go.Proofs.YtaflkgjckmfkoaaGreat.DW
open Go.RowKit Go.Sort Go.Shelf
abbrev OV:={ v:DV // okV v=true }
instance:Inhabited OV:=⟨⟨(0,0),by decide⟩⟩
def encO (x:OV):List Value:=encV x.1
def cfO (x y:OV):Int:=cfV x.1 y.1
set_option maxRecDepth 100000 in
set_option maxHeartbeats 1000000 in
theorem compareVecs_any (a b:DV) (ha:okV a=true) (hb:okV b=true) (W:World):Calls Tryz.prog 177 #[.agg #[.int .i64 a.1,.int .i64 a.2],.agg #[.int .i64 b.1,.int .i64 b.2]] W fun e w'=>e=.returned (.int .i64 (cfV a b))/\∃ q os',w'=grow (W.drewN q) os':=by
 obtain ⟨a1,a2⟩:=a
 obtain ⟨b1,b2⟩:=b
 obtain ⟨p1,p2,p3,p4⟩:=okV_b ha
 obtain ⟨q1,q2,q3,q4⟩:=okV_b hb
 simp only at p1 p2 p3 p4 q1 q2 q3 q4
 clear ha hb
 unfold cfV
 by_cases h:a1=b1
 ·subst h
  simp only [if_true]
  go_enter Tryz.func177,Tryz.ntmps177
  go_wp2
  go_ret
  exact ⟨rfl,0,_,by rw [alloc_eq_grow,alloc_eq_grow,grow_grow]; rfl⟩
 ·simp only [h,if_false]
  go_enter Tryz.func177,Tryz.ntmps177
  go_wp2
  go_ret
  exact ⟨rfl,0,_,by rw [alloc_eq_grow,alloc_eq_grow,grow_grow]; rfl⟩
theorem cmpLays (blk off size:Nat) (w:World):CmpLays Tryz.prog 177 #[] encO 2 cfO blk off size w :=
 fun _ _ _ _ x y=>compareVecs_any x.1 y.1 x.2 y.2 _
theorem flat_val (d:List OV):flatK encO 2 d.toArray=flatK encV 2 (d.map Subtype.val).toArray:=by
 refine ext_get! (by simp) fun t ht=>?_
 have ht':t < d.length * 2:=by simpa using ht
 rw [get_flatK _ _ _ t (by simpa using ht'),get_flatK _ _ _ t (by simpa using ht'),getElem!_pos d.toArray (t / 2) (by simp; omega),getElem!_pos (d.map Subtype.val).toArray (t / 2) (by simp; omega),List.getElem_toArray,List.getElem_toArray,List.getElem_map]
 rfl
theorem swoO:SWO (ltOf cfO) where
 irrefl x:=by
  have:=cfV_lt x.1 x.1
  show decide (cfV x.1 x.1 < 0)=false
  rw [decide_eq_false_iff_not,this]
  exact ltV_irrefl _
 trans x y z h1 h2:=by
  have h1:=(cfV_lt x.1 y.1).1 (of_decide_eq_true h1)
  have h2:=(cfV_lt y.1 z.1).1 (of_decide_eq_true h2)
  exact decide_eq_true ((cfV_lt x.1 z.1).2 (ltV_trans h1 h2))
 ntrans x y z h1 h2:=by
  have h1:=fun h=>of_decide_eq_false h1 ((cfV_lt x.1 y.1).2 h)
  have h2:=fun h=>of_decide_eq_false h2 ((cfV_lt y.1 z.1).2 h)
  refine decide_eq_false fun h=>?_
  have h:=(cfV_lt x.1 z.1).1 h
  rcases ltV_tri x.1 y.1 with k|k|k
  ·exact h1 k
  ·exact h2 (k ▸ h)
  ·exact h2 (ltV_trans k h)
theorem totO (x y:OV) (h1:(ltOf cfO) x y=false) (h2:(ltOf cfO) y x=false):x=y:=by
 have h1:=fun h=>of_decide_eq_false h1 ((cfV_lt x.1 y.1).2 h)
 have h2:=fun h=>of_decide_eq_false h2 ((cfV_lt y.1 x.1).2 h)
 rcases ltV_tri x.1 y.1 with k|k|k
 ·exact (h1 k).elim
 ·exact Subtype.ext k
 ·exact (h2 k).elim
theorem exO:∀ l:List DV,(∀ v ∈ l,okV v=true)->∃ d:List OV,d.map Subtype.val=l
 | [],_=>⟨[],rfl⟩
 | v :: l,h=>by
  obtain ⟨d,hd⟩:=exO l fun x hx=>h x (List.mem_cons_of_mem _ hx)
  exact ⟨⟨v,h v List.mem_cons_self⟩ :: d,by rw [List.map_cons,hd]⟩
theorem sort_fn (l:List DV) (hl:∀ v ∈ l,okV v=true) (h0:0 < l.length) (hn:l.length<=1048576):FnR Tryz.prog 176 [.fn 177] 78 tVec l (l.mergeSort leB) false:=by
 obtain ⟨d,rfl⟩:=exO l hl
 refine FnR.of (enters_of Tryz.func176 (by kernel_rfl) rfl) h0 false fun hI w g cap hg hc hcm hH=>?_
 have hH':HoldsK encO 2 w g 0 d.toArray:=by unfold HoldsK; rw [flat_val]; exact hH
 have hdl:d.toArray.size=(d.map Subtype.val).length:=by simp
 have eg:∀ args w,(callFunc 177 args).run Tryz.prog w=.ok (.enter 177 args) w:=enters_of Tryz.func177 (by kernel_rfl) rfl
 have hcon:=AnyQ.slices_SortFunc_total sortL 2 Tryz.isAgg78 Tryz.sizeOf78 encO (fun _=>rfl) (fun x v hv=>by simp [encO,encV] at hv; rcases hv with rfl|rfl<;>rfl) cfO swoO 177 #[] g 0 cap d.toArray w eg (cmpLays g 0 _ w) hH' hg (by rw [hdl]; omega) totO
 rw [hdl] at hcon
 have hms:((d.mergeSort fun x y=>!(ltOf cfO) y x).map Subtype.val)=(d.map Subtype.val).mergeSort leB:=List.map_mergeSort fun a _ b _=>rfl
 refine Calls.mono hcon ?_
 rintro e w' ⟨rfl,n,os,rfl⟩
 refine ⟨(d.map Subtype.val).mergeSort leB,n,os,rfl,fun _=>List.length_mergeSort _,List.length_mergeSort _,fun x hx=>.inl ((List.mergeSort_perm _ _).mem_iff.1 hx),(List.take_length ..).symm,Nat.le_refl _,?_⟩
 unfold sortWorldK putRowK
 rw [<-hms,<-flat_val]
theorem reverse_fn (l:List DV) (h0:0 < l.length) (hn:l.length<=1048576):FnR Tryz.prog 180 [] 78 tVec l l.reverse false:=by
 refine FnR.of (enters_of Tryz.func180 (by kernel_rfl) rfl) h0 false fun hI w g cap hg hc hcm hH=>?_
 have hcon:=AnyQ.slices_Reverse revL 2 Tryz.isAgg78 Tryz.sizeOf78 encV (fun _=>rfl) (fun x v hv=>by simp [encV] at hv; rcases hv with rfl|rfl<;>rfl) g 0 cap l.toArray w hH (by simp; omega)
 have hdl:l.toArray.size=l.length:=by simp
 rw [hdl] at hcon
 refine Calls.mono hcon ?_
 rintro e w' ⟨rfl,n,rfl⟩
 refine ⟨l.reverse,n,#[],rfl,fun _=>List.length_reverse,List.length_reverse,fun x hx=>.inl (List.mem_reverse.1 hx),(List.take_length ..).symm,Nat.le_refl _,?_⟩
 unfold sortWorldK
 rw [grow_empty,List.reverse_toArray]
end Go.Proofs.YtaflkgjckmfkoaaGreat.DW

namespace Go.Proofs.YtaflkgjckmfkoaaGreat.DW
open Go.RowKit Go.Sort Go.Lib
theorem cmpD_snoc (y x:DV):∀ l:List DV,cmpD (l++[y,x])=cmpD (l++[y])++(if y=x then [] else [x])
 | []=>by
  show (if y=x then cmpD [x] else y :: cmpD [x])=[y]++_
  by_cases h:y=x
  ·rw [if_pos h,if_pos h,h]; rfl
  ·rw [if_neg h,if_neg h]; rfl
 | [a]=>by
  show (if a=y then cmpD [y,x] else a :: cmpD [y,x])=(if a=y then cmpD [y] else a :: cmpD [y])++_
  have ih:=cmpD_snoc y x []
  simp only [List.nil_append] at ih
  by_cases h:a=y
  ·rw [if_pos h,if_pos h,ih]
  ·rw [if_neg h,if_neg h,ih]; rfl
 | a :: b :: l=>by
  show (if a=b then cmpD (b :: (l++[y,x])) else a :: cmpD (b :: (l++[y,x])))=(if a=b then cmpD (b :: (l++[y])) else a :: cmpD (b :: (l++[y])))++_
  have ih:=cmpD_snoc y x (b :: l)
  simp only [List.cons_append] at ih
  by_cases h:a=b
  ·rw [if_pos h,if_pos h,ih]
  ·rw [if_neg h,if_neg h,ih]; rfl
theorem cpt_take (l:List DV):∀ m,m<=l.length->compactUpTo l.toArray m=cmpD (l.take m)
 | 0,_=>rfl
 | 1,h=>by
  rw [compactUpTo_succ,keeps_lt_one _ 0 (by decide),if_pos rfl]
  have e:l.take 1=[l[0]'(by omega)]:=by rw [List.take_add_one,List.getElem?_eq_getElem (by omega)]; rfl
  rw [e,getElem!_pos l.toArray 0 (by simp; omega)]
  rfl
 | m+2,h=>by
  have ih:=cpt_take l (m+1) (by omega)
  have e1:l.take (m+1)=l.take m++[l[m]'(by omega)]:=by rw [List.take_add_one,List.getElem?_eq_getElem (by omega)]; rfl
  have e2:l.take (m+2)=l.take m++[l[m]'(by omega),l[m+1]'(by omega)]:=by
   rw [List.take_add_one,List.getElem?_eq_getElem (by omega),e1,List.append_assoc]; rfl
  rw [compactUpTo_succ,ih,e2,cmpD_snoc,e1]
  have g1:l.toArray[m+1]! = l[m+1]'(by omega):=by rw [getElem!_pos l.toArray (m+1) (by simp; omega)]; rfl
  have g0:l.toArray[m+1 - 1]! = l[m]'(by omega):=by rw [Nat.add_sub_cancel,getElem!_pos l.toArray m (by simp; omega)]; rfl
  by_cases h2:l[m]'(by omega)=l[m+1]'(by omega)
  ·rw [keeps_neg (by omega) (by rw [g1,g0,h2]),if_pos h2]; rfl
  ·rw [keeps_pos (by rw [g1,g0]; exact fun h=>h2 h.symm),if_neg h2,if_pos rfl,g1]
theorem cpt_all (l:List DV):compactUpTo l.toArray l.length=cmpD l:=by
 rw [cpt_take l _ (Nat.le_refl _),List.take_length]
theorem setMany_one (d:Array DV) {i:Nat} (hi:i < d.size) (x:DV):setMany (flatK encV 2 d) (i * 2) (encV x)=flatK encV 2 (d.setIfInBounds i x):=by
 refine ext_get! (by simp) fun t ht=>?_
 have ht':t < d.size * 2:=by simpa using ht
 rw [get_setMany _ _ _ t (by simpa using ht'),get_flatK _ _ _ t ht',get_flatK _ _ _ t (by simpa using ht')]
 show (if i * 2<=t/\t < i * 2+2 then _ else _)=_
 by_cases h:t / 2=i
 ·rw [if_pos ⟨by omega,by omega⟩]
  subst h
  rw [getElem!_set_same d _ x hi,show t - t / 2 * 2=t % 2 by omega]
 ·rw [if_neg (by omega),getElem!_set_other d i _ x h]
theorem setMany_zero (d:Array DV) {k:Nat} (hk:k<=d.size) (r:List DV) (hr:r.length=k) (hlow:∀ j,j < k->r[j]? = some d[j]!) :
  setMany (flatK encV 2 d) (k * 2) (List.replicate ((d.size - k) * 2) (.int .i64 0))=flatK encV 2 (r++List.replicate (d.size - k) (0,0)).toArray:=by
 have hsz:(r++List.replicate (d.size - k) ((0:Int),(0:Int))).toArray.size=d.size:=by simp [hr]; omega
 refine ext_get! (by rw [size_setMany,size_flatK,size_flatK,hsz]) fun t ht=>?_
 have ht':t < d.size * 2:=by simpa using ht
 rw [get_setMany _ _ _ t (by simpa using ht'),get_flatK _ _ _ t ht',get_flatK _ _ _ t (by rw [hsz]; exact ht'),List.length_replicate]
 by_cases h:t / 2 < k
 ·rw [if_neg (by omega)]
  have h1:=hlow _ h
  have h2:(r++List.replicate (d.size - k) ((0:Int),(0:Int))).toArray[t / 2]! = d[t / 2]!:=by
   rw [getElem!_pos _ _ (by rw [hsz]; omega)]
   rw [List.getElem_toArray,List.getElem_append_left (by omega)]
   rw [List.getElem?_eq_getElem (by omega)] at h1
   injection h1
  rw [h2]
 ·rw [if_pos ⟨by omega,by omega⟩]
  have h2:(r++List.replicate (d.size - k) ((0:Int),(0:Int))).toArray[t / 2]! = (0,0):=by
   rw [getElem!_pos _ _ (by rw [hsz]; omega)]
   rw [List.getElem_toArray,List.getElem_append_right (by omega),List.getElem_replicate]
  rw [h2,getElem!_pos _ _ (by simp; omega),List.getElem_replicate]
  have h3:t % 2=0\/t % 2=1:=by omega
  rcases h3 with h3|h3<;>rw [h3]<;>rfl
end Go.Proofs.YtaflkgjckmfkoaaGreat.DW

namespace Go.Proofs.YtaflkgjckmfkoaaGreat.DW
open Go.RowKit Go.Sort Go.Lib
theorem vecT:vecTy Tryz.prog 78=true:=by kernel_rfl
theorem run_clear_vec (w:World) (ty:TypeId) (b o n c:Nat) (hn:0 < n)
  (hc:∀ j,j < n * 2->(w.cell? ⟨b,o+j,none⟩).isSome=true) (hf:∀ j,j < n * 2->w.frozen? ⟨b,o+j,none⟩=false) :
  (Builtin.clear_ #[43] ty #[.slice (some ⟨b,o,none⟩) n c]).run Tryz.prog w=.ok (.tuple #[]) (w.setCells b o (List.replicate (n * 2) (.int .i64 0))):=by
 have hzc:(Builtin.zeroCells (Value.agg #[.int .i64 0,.int .i64 0]).cells n).toList=List.replicate (n * 2) (.int .i64 0):=by
  apply List.ext_getElem
  ·simp [Builtin.zeroCells,Value.cells]
  ·intro i h1 h2
   simp only [Builtin.zeroCells,Value.cells,Array.toList_map,Array.toList_range,List.getElem_map,List.getElem_range,List.getElem_replicate]
   have:i % 2=0\/i % 2=1:=by omega
   show (#[Value.int .i64 0,Value.int .i64 0])[i % 2]! = _
   rcases this with h|h<;>rw [h]<;>rfl
 have hst:=run_storeCells_cells (P:=Tryz.prog) b o (List.replicate (n * 2) (.int .i64 0)) 0 w (by simpa using hc) (by simpa using hf) (by intro v hv'; rw [List.eq_of_mem_replicate hv']; rfl)
 simp only [Nat.add_zero] at hst
 obtain ⟨m,rfl⟩:∃ m,n=m+1:=⟨n - 1,by omega⟩
 have hz:=Tryz.zeroValue78
 have hu:=Tryz.underlying43
 simp [Builtin.clear_,run_underlying hu,hz,hzc,hst]
theorem store_world_v {w wr:World} {n blk off:Nat} {dk:Array DV} {i:Nat} (hi:i < dk.size) (hwr:wr=putRowK encV 2 (Sort.ahead w n) blk off dk) (a b:Int) :
  ((wr.setCell ⟨blk,off+i * 2,none⟩ (.int .i64 a)).setCell ⟨blk,off+i * 2+1,none⟩ (.int .i64 b)).drew=putRowK encV 2 (Sort.ahead w (n+1)) blk off (dk.setIfInBounds i (a,b)):=by
 subst hwr
 have h:=setCells_putRow (Sort.ahead w n) blk off (encV (a,b)) (i * 2) (flatK encV 2 dk) (by rw [size_flatK]; show i * 2+2<=_; omega)
 rw [setMany_one dk hi (a,b)] at h
 have h2:((putRowK encV 2 (Sort.ahead w n) blk off dk).setCell ⟨blk,off+i * 2,none⟩ (.int .i64 a)).setCell ⟨blk,off+i * 2+1,none⟩ (.int .i64 b)=putRow id (Sort.ahead w n) blk off (flatK encV 2 (dk.setIfInBounds i (a,b))):=h
 rw [h2,putRow_drew,ahead_drew]
 rfl
set_option maxRecDepth 100000 in
set_option maxHeartbeats 4000000 in
theorem compact_any (blk off cap:Nat) (d:Array DV) (w:World) (hH:HoldsK encV 2 w blk off d) (hsz:d.size<=9223372036854775807) (hcap:d.size<=cap) :
  Calls Tryz.prog 178 #[.slice (some ⟨blk,off,none⟩) d.size cap] w fun e w'=>e=.returned (.slice (some ⟨blk,off,none⟩) (compactUpTo d d.size).length cap)/\∃ q,w'=putRowK encV 2 (Sort.ahead w q) blk off (compactUpTo d d.size++List.replicate (d.size - (compactUpTo d d.size).length) (0,0)).toArray:=by
 have heq':∀ (a b c d:Int) (w:World),Sem.run Tryz.prog (binOp .eql 78 (.agg #[.int .i64 a,.int .i64 b]) (.agg #[.int .i64 c,.int .i64 d])) w=.ok (.bool (decide (a=c) && decide (b=d))) w:=fun a b c d w=>by rw [run_eql_struct,vec_eq vecT]; rfl
 have hne':∀ (a b c d:Int) (w:World),Sem.run Tryz.prog (binOp .neq 78 (.agg #[.int .i64 a,.int .i64 b]) (.agg #[.int .i64 c,.int .i64 d])) w=.ok (.bool (!(decide (a=c) && decide (b=d)))) w:=fun a b c d w=>by rw [run_neq_struct,vec_eq vecT]; rfl
 have hgd':∀ (op:BinOp) (x y:Operand) (a b c d:Int) (w:World),Sem.run Tryz.prog (eqGuard op 78 x y (.agg #[.int .i64 a,.int .i64 b]) (.agg #[.int .i64 c,.int .i64 d])) w=.ok () w:=fun op x y a b c d w=>run_eqGuard_agg w op _ x y _ _ (vecTy_g vecT)
 have same:∀ q,(∀ j,j < d.size->keeps d j=true)->(compactUpTo d d.size).length=d.size/\w.drewN q=putRowK encV 2 (Sort.ahead w q) blk off (compactUpTo d d.size++List.replicate (d.size - (compactUpTo d d.size).length) (0,0)).toArray:=by
  intro q hall
  have e:compactUpTo d d.size=d.toList:=by rw [compactUpTo_all d _ hall,range_map_get]
  rw [e]
  refine ⟨by simp,?_⟩
  simp only [Array.length_toList,Nat.sub_self,List.replicate_zero,List.append_nil,Array.toArray_toList]
  exact (putRowK_self encV 2 (Sort.ahead w q) blk off d (holdsK_ahead encV 2 w q blk off d hH)).symm
 have HS:Aside (∀ q,(∀ j,j < d.size->keeps d j=true)->(compactUpTo d d.size).length=d.size/\w.drewN q=putRowK encV 2 (Sort.ahead w q) blk off (compactUpTo d d.size++List.replicate (d.size - (compactUpTo d d.size).length) (0,0)).toArray):=same
 clear same
 have mixed:Tryz.prog.follows .mixedOrders=true:=mixes
 have encat:∀ x:DV,(encV x)[0]! = .int .i64 x.1/\(encV x)[1]! = .int .i64 x.2:=fun x=>⟨rfl,rfl⟩
 by_cases h2:d.size < 2
 ·have HH:Aside (HoldsK encV 2 w blk off d):=hH
  clear hH
  go_enter Tryz.func178,Tryz.ntmps178
  go_wp2
  go_ret
  obtain ⟨e1,e2⟩:=HS.out 0 (fun j hj=>keeps_lt_one d j (by omega))
  exact ⟨by rw [e1]; rfl,0,e2⟩
 ·go_enter Tryz.func178,Tryz.ntmps178
  go_wp2
  go_loopg [3] d.size (fun g s3 wr=>∃ k q:Nat,1<=k/\k<=d.size/\d.size - k<=g/\s3=.int .i64 k/\wr=w.drewN q/\∀ j,j < k->keeps d j=true)
  case atStart=>exact ⟨1,0,Nat.le_refl _,by omega,by omega,rfl,rfl,keeps_lt_one d⟩
  case round =>
   obtain ⟨k,q,hk1,hk,hg,rfl,rfl,hall⟩:=hrel
   by_cases hlt:k < d.size
   ·obtain ⟨c1,f1⟩:=hH.cell hlt (c:=0) (by decide)
    obtain ⟨c1',f1'⟩:=hH.cell hlt (c:=1) (by decide)
    obtain ⟨c0,f0⟩:=hH.cell (i:=k - 1) (by omega) (c:=0) (by decide)
    obtain ⟨c0',f0'⟩:=hH.cell (i:=k - 1) (by omega) (c:=1) (by decide)
    rw [(encat _).1] at c1 c0
    rw [(encat _).2] at c1' c0'
    rw [Nat.add_zero] at c1 c0 f1 f0
    have A:Aside (∀ j,j < k->keeps d j=true):=hall
    have HH:Aside (HoldsK encV 2 w blk off d):=hH
    clear hall hH
    generalize hx:d[k]! = x at c1 c1'
    generalize hy:d[k - 1]! = y at c0 c0'
    have B:Aside (d[k]! = x/\d[k - 1]! = y):=⟨hx,hy⟩
    clear hx hy
    obtain ⟨x1,x2⟩:=x
    obtain ⟨y1,y2⟩:=y
    simp only at c1 c1' c0 c0'
    have hbe:(decide (x1=y1) && decide (x2=y2))=decide ((x1,x2)=(y1,y2)):=by
     by_cases e1:x1=y1<;>by_cases e2:x2=y2<;>simp [e1,e2]
    by_cases hdup:((x1,x2):DV)=(y1,y2)
    ·injection hdup with h1 h2'
     subst h1 h2'
     go_wp2_with fail
     go_region_o
     go_wp2
     clear c0 c1 c0' c1' f0 f1 f0' f1'
     go_loopg [3,5] d.size (fun g s3 s5 wr=>∃ (kk k2 q2:Nat) (dk:Array DV),s3=.int .i64 kk/\s5=.int .i64 k2/\1<=k2/\k+k2<=d.size/\d.size - (k+k2)<=g/\wr=putRowK encV 2 (Sort.ahead w q2) blk off dk/\CompInv d (k+k2) kk dk)
     case atStart=>exact ⟨k,1,q+1,d,rfl,rfl,Nat.le_refl _,by omega,by omega,(putRowK_self encV 2 (Sort.ahead w (q+1)) blk off d (holdsK_ahead encV 2 w (q+1) blk off d HH.out)).symm,CompInv.start A.out (keeps_neg (by omega) (by rw [B.out.1,B.out.2]))⟩
     case round =>
      obtain ⟨kk,k2,q2,dk,rfl,rfl,h1,hle,hg2,hwr,hI⟩:=hrel
      have hkk:=hI.lt
      have hds:=hI.size
      have hHk:HoldsK encV 2 wr blk off dk:=by rw [hwr]; exact holdsK_putRowK encV 2 _ blk off d dk (holdsK_ahead encV 2 w q2 blk off d HH.out) hds
      have W2:Aside (wr=putRowK encV 2 (Sort.ahead w q2) blk off dk):=hwr
      have I2:Aside (CompInv d (k+k2) kk dk):=hI
      clear hwr
      by_cases hlt2:k+k2 < d.size
      ·obtain ⟨cm,_⟩:=hHk.cell (i:=k+k2) (by omega) (c:=0) (by decide)
       obtain ⟨cm',_⟩:=hHk.cell (i:=k+k2) (by omega) (c:=1) (by decide)
       obtain ⟨cp,_⟩:=hHk.cell (i:=k+k2 - 1) (by omega) (c:=0) (by decide)
       obtain ⟨cp',_⟩:=hHk.cell (i:=k+k2 - 1) (by omega) (c:=1) (by decide)
       obtain ⟨ck,fk⟩:=hHk.cell (i:=kk) (by omega) (c:=0) (by decide)
       obtain ⟨ck',fk'⟩:=hHk.cell (i:=kk) (by omega) (c:=1) (by decide)
       rw [hI.high (k+k2) (by omega),(encat _).1,show off+(k+k2) * 2+0=off+k * 2+k2 * 2 by omega] at cm
       rw [hI.high (k+k2) (by omega),(encat _).2,show off+(k+k2) * 2+1=off+k * 2+k2 * 2+1 by omega] at cm'
       rw [hI.high (k+k2 - 1) (by omega),(encat _).1,show off+(k+k2 - 1) * 2+0=off+k * 2+(k2 - 1) * 2 by omega] at cp
       rw [hI.high (k+k2 - 1) (by omega),(encat _).2,show off+(k+k2 - 1) * 2+1=off+k * 2+(k2 - 1) * 2+1 by omega] at cp'
       rw [(encat _).1,Nat.add_zero] at ck
       rw [(encat _).2] at ck'
       rw [Nat.add_zero] at fk
       clear hHk hI
       generalize hu:d[k+k2]! = u at cm cm'
       generalize hv:d[k+k2 - 1]! = v at cp cp'
       generalize dk[kk]! = old at ck ck'
       have C:Aside (d[k+k2]! = u/\d[k+k2 - 1]! = v):=⟨hu,hv⟩
       clear hu hv
       obtain ⟨u1,u2⟩:=u
       obtain ⟨v1,v2⟩:=v
       obtain ⟨o1,o2⟩:=old
       simp only at cm cm' cp cp' ck ck'
       by_cases huv:((u1,u2):DV)=(v1,v2)
       ·injection huv with e1 e2
        subst e1 e2
        go_wp2_with fail
        go_region_o
        go_wp2
        go_roundg (d.size - (k+(k2+1)))
        case measure=>omega
        case rel=>exact ⟨kk,k2+1,q2+1,dk,rfl,by go_num,by omega,by omega,Nat.le_refl _,by rw [W2.out]; rfl,I2.out.skip (keeps_neg (by omega) (by rw [C.out.1,C.out.2]))⟩
       ·have huv2:¬ (u1=v1/\u2=v2):=fun h=>huv (by rw [h.1,h.2])
        have hbe2:(decide (u1=v1) && decide (u2=v2))=false:=by
         by_cases e1:u1=v1<;>by_cases e2:u2=v2<;>simp [e1,e2]<;>exact huv2 ⟨e1,e2⟩
        have HU:Aside (¬ ((u1,u2):DV)=(v1,v2)):=huv
        clear huv huv2
        go_wp2_with fail
        go_region_o
        go_wp2
        go_roundg (d.size - (k+(k2+1)))
        case measure=>omega
        case rel=>exact ⟨kk+1,k2+1,q2+1,dk.setIfInBounds kk (u1,u2),by go_num,by go_num,by omega,by omega,Nat.le_refl _,store_world_v (by omega) W2.out u1 u2,by have:=I2.out.keep hlt2 (keeps_pos (by rw [C.out.1,C.out.2]; exact HU.out)); rwa [C.out.1] at this⟩
      ·have hend:k+k2=d.size:=by omega
       have hcl:∀ ty,(Builtin.clear_ #[43] ty #[.slice (some ⟨blk,off+kk * 2,none⟩) (d.size - kk) (cap - kk)]).run Tryz.prog wr=.ok (.tuple #[]) (wr.setCells blk (off+kk * 2) (List.replicate ((d.size - kk) * 2) (.int .i64 0))) :=
        fun ty=>run_clear_vec wr ty blk (off+kk * 2) _ _ (by omega) (fun j hj=>by
         have h:=(hHk (kk * 2+j) (by simp [hds]; omega)).1
         rw [show off+kk * 2+j=off+(kk * 2+j) by omega,h]; rfl) (fun j hj=>by
         have h:=(hHk (kk * 2+j) (by simp [hds]; omega)).2
         rw [show off+kk * 2+j=off+(kk * 2+j) by omega]; exact h)
       clear hHk hI
       go_wp2
       go_ret
       have hI:=I2.out
       rw [hend] at hI
       refine ⟨by rw [hI.len]; rfl,q2,?_⟩
       have hz:=setMany_zero dk (k:=kk) (by omega) (compactUpTo d d.size) hI.len hI.low
       rw [hI.len,W2.out]
       unfold putRowK
       rw [setCells_putRow _ _ _ _ _ _ (by rw [size_flatK,List.length_replicate]; omega),show d.size - kk=dk.size - kk by rw [hds],hz]
    ·have hbe2:(decide (x1=y1) && decide (x2=y2))=false:=by rw [hbe]; exact decide_eq_false hdup
     have HD:Aside (¬ ((x1,x2):DV)=(y1,y2)):=hdup
     clear hdup hbe
     go_wp2_with fail
     go_region_o
     go_wp2
     go_roundg (d.size - (k+1))
     case measure=>omega
     case rel =>
      refine ⟨k+1,q+1,by omega,by omega,Nat.le_refl _,by go_num,rfl,fun j hj=>?_⟩
      by_cases e:j=k
      ·subst e
       exact keeps_pos (by rw [B.out.1,B.out.2]; exact HD.out)
      ·exact A.out j (by omega)
   ·have:k=d.size:=by omega
    subst this
    have HH:Aside (HoldsK encV 2 w blk off d):=hH
    clear hH
    go_wp2
    go_ret
    obtain ⟨e1,e2⟩:=HS.out q hall
    exact ⟨by rw [e1]; rfl,q,e2⟩
theorem compact_fn (l:List DV) (h0:0 < l.length) (hn:l.length<=1048576):FnR Tryz.prog 178 [] 78 tVec l (cmpD l) true:=by
 refine FnR.of (enters_of Tryz.func178 (by kernel_rfl) rfl) h0 true fun hI w g cap hg hc hcm hH=>?_
 have hcon:=compact_any g 0 cap l.toArray w hH (by simp; omega) (by simpa using hc)
 have hdl:l.toArray.size=l.length:=by simp
 rw [hdl,cpt_all] at hcon
 refine Calls.mono hcon ?_
 rintro e w' ⟨rfl,n,rfl⟩
 have hcl:=cmpD_len (l:=l)
 refine ⟨cmpD l++List.replicate (l.length - (cmpD l).length) (0,0),n,#[],rfl,(fun h=>by cases h),?_,fun x hx=>?_,?_,?_,?_⟩
 ·rw [List.length_append,List.length_replicate]; omega
 ·rcases List.mem_append.1 hx with h|h
  ·exact .inl (cmpD_mem.1 h)
  ·exact .inr (List.eq_of_mem_replicate h)
 ·rw [List.take_left']; rfl
 ·rw [List.length_append]; omega
 ·unfold sortWorldK
  rw [grow_empty]
end Go.Proofs.YtaflkgjckmfkoaaGreat.DW

namespace Go.Proofs.YtaflkgjckmfkoaaGreat.DW
open Go.RowKit
theorem cloneV_fn (l:List DV) (h0:0 < l.length) (hn:l.length<=1048576):FnG Tryz.prog 175 [⟨.slice tVec,l⟩] 78 tVec l:=by
 refine fnG_enter tabOK mixes Tryz.func175 rfl rfl _ Tryz.ntmps175 _ Tryz.results175 (by simp) fun hwf=>?_
 try simp (maxSteps:=9^9) only[go_sem]
 refine NilW.non (by intro e; rw [e] at h0; simp at h0) ?_
 try simp (maxSteps:=9^9) only[go_sem]
 repeat refine And.intro (by first|omega|(constructor<;>omega)|kernel_rfl) ?_
 exact ⟨0,1,rfl,rfl⟩
theorem HullOf_fn (l:List DV) (hl:∀ v ∈ l,okV v=true) (h0:0 < l.length) (hn:l.length<=64):Fn Tryz.prog 159 [⟨.slice tVec,l⟩] true [⟨.slice tVec,hullD l⟩]:=by
 have c1:=areVecs_fn l
 rw [any_okV_f hl] at c1
 have d0:=decide_eq_false (p:=(l.length:Int) > 64) (by omega)
 have c2:=cloneV_fn l h0 (by omega)
 have c3:=sort_fn l hl h0 (by omega)
 have hml:(l.mergeSort leB).length=l.length:=List.length_mergeSort _
 have c4:=compact_fn (l.mergeSort leB) (by omega) (by omega)
 have hsl:=srtD_len l
 have hsm:∀ v ∈ srtD l,okV v=true:=fun v hv=>hl v (srtD_mem.1 hv)
 have hcs:cmpD (l.mergeSort leB)=srtD l:=rfl
 rw [hcs] at c4
 refine fn_enter tabOK mixes Tryz.func159 rfl rfl _ Tryz.ntmps159 _ Tryz.results159 (by simp) fun hwf=>?_
 try simp (maxSteps:=9^9) only[go_sem,d0]
 repeat refine And.intro (by first|omega|(constructor<;>omega)|kernel_rfl) ?_
 refine CallW.mk (c1) ?_
 try simp (maxSteps:=9^9) only[go_sem]
 repeat refine And.intro (by first|omega|(constructor<;>omega)|kernel_rfl) ?_
 refine CallW.g (c2) ?_
 try simp (maxSteps:=9^9) only[go_sem]
 repeat refine And.intro (by first|omega|(constructor<;>omega)|kernel_rfl) ?_
 refine CallW.r (k:=0) (ver:=0) (o:=true) (c3) ?_
 try simp (maxSteps:=9^9) only[go_sem]
 repeat refine And.intro (by first|omega|(constructor<;>omega)|kernel_rfl) ?_
 refine CallW.r (k:=0) (ver:=0) (o:=true) (c4) ?_
 try simp (maxSteps:=9^9) only[go_sem]
 refine CondW_dec (fun hA=>?_) (fun hA=>?_)
 ·have hh:hullD l=srtD l:=by unfold hullD; rw [if_pos (by omega)]
  rw [hh]
  try simp (maxSteps:=9^9) only[go_sem]
 ·have hh:hullD l=chD (srtD l)++chD (srtD l).reverse:=by unfold hullD; rw [if_neg (by omega)]
  rw [hh]
  generalize srtD l=s at hsl hsm hA ⊢
  have c5:=chain_fn s hsm (by omega) (by omega)
  have c6:=reverse_fn s (by omega) (by omega)
  have hrl:s.reverse.length=s.length:=List.length_reverse
  have c7:=chain_fn s.reverse (fun v hv=>hsm v (List.mem_reverse.1 hv)) (by omega) (by omega)
  have q1:=chR_len s
  have q2:=chR_len s.reverse
  have q3:(chD s).length<=s.length:=by unfold chD; rw [List.length_dropLast,List.length_reverse]; omega
  have q4:(chD s.reverse).length<=s.length:=by unfold chD; rw [List.length_dropLast,List.length_reverse]; omega
  try simp (maxSteps:=9^9) only[go_sem]
  repeat refine And.intro (by first|omega|(constructor<;>omega)|kernel_rfl) ?_
  refine CallW.g (c5) ?_
  try simp (maxSteps:=9^9) only[go_sem]
  repeat refine And.intro (by first|omega|(constructor<;>omega)|kernel_rfl) ?_
  refine CallW.r (k:=0) (ver:=1) (o:=true) (c6) ?_
  try simp (maxSteps:=9^9) only[go_sem]
  repeat refine And.intro (by first|omega|(constructor<;>omega)|kernel_rfl) ?_
  refine CallW.g (c7) ?_
  try simp (maxSteps:=9^9) only[go_sem]
  repeat refine And.intro (by first|omega|(constructor<;>omega)|kernel_rfl) ?_
  omega
end Go.Proofs.YtaflkgjckmfkoaaGreat.DW

namespace Go.Proofs.YtaflkgjckmfkoaaGreat.DW
open Go.RowKit
theorem natL_minInt:natL 9223372036854775808=[854775808,223372036,9]:=by
 rw [natL_pos (by decide),natL_pos (by decide),natL_pos (by decide),natL_zero]; rfl
theorem bigOf_fn (n:Int):Fn Tryz.prog 31 [⟨.int,n⟩] true [⟨tBig,bigD n⟩]:=by
 by_cases h0:0<=n
 ·have hn:¬ n < 0:=by omega
  have e:n.natAbs=n.toNat:=by omega
  refine fn_enter tabOK mixes Tryz.func31 rfl rfl _ Tryz.ntmps31 _ Tryz.results31 (by simp) fun hwf=>?_
  try simp (maxSteps:=9^9) only[go_sem,h0,hn]
  repeat refine And.intro (by first|omega|(constructor<;>omega)|kernel_rfl) ?_
  refine CallW.mk (implNatOf_fn n) ?_
  try simp (maxSteps:=9^9) only[go_sem]
  rw [e]
  all_goals repeat refine And.intro (by first|omega|(constructor<;>omega)|kernel_rfl) ?_
  all_goals first|kernel_rfl|omega|rfl
 ·by_cases h1:n=-9223372036854775808
  ·subst h1
   have e:natL 9223372036854775807=natL (9223372036854775807:Int).toNat:=rfl
   have ha:=natAdd_fn (9223372036854775807:Int).toNat (1:Int).toNat (Nat.le_trans (natL_len3 (n:=9223372036854775807) (by decide)) (by decide)) (Nat.le_trans (nl_small (by decide)) (by decide))
   refine fn_enter tabOK mixes Tryz.func31 rfl rfl _ Tryz.ntmps31 _ Tryz.results31 (by simp) fun hwf=>?_
   try simp (maxSteps:=9^9) only[go_sem]
   repeat refine And.intro (by first|omega|(constructor<;>omega)|kernel_rfl) ?_
   refine CallW.mk (implNatOf_fn 9223372036854775807) ?_
   try simp (maxSteps:=9^9) only[go_sem]
   repeat refine And.intro (by first|omega|(constructor<;>omega)|kernel_rfl) ?_
   refine CallW.mk (implNatOf_fn 1) ?_
   try simp (maxSteps:=9^9) only[go_sem]
   repeat refine And.intro (by first|omega|(constructor<;>omega)|kernel_rfl) ?_
   refine CallW.mk (ha) ?_
   try simp (maxSteps:=9^9) only[go_sem]
   all_goals repeat refine And.intro (by first|omega|(constructor<;>omega)|kernel_rfl) ?_
   all_goals first|kernel_rfl|omega|rfl
  ·have hn:n < 0:=by omega
   have e:n.natAbs=(-n).toNat:=by omega
   refine fn_enter tabOK mixes Tryz.func31 rfl rfl _ Tryz.ntmps31 _ Tryz.results31 (by simp) fun hwf=>?_
   have hI:I64 n:=hwf ⟨.int,n⟩ (by simp)
   have hI1:=hI.1
   have hI2:=hI.2
   try simp (maxSteps:=9^9) only[go_sem,h0,h1]
   repeat refine And.intro (by first|omega|(constructor<;>omega)|kernel_rfl) ?_
   refine CallW.mk (implNatOf_fn (-n)) ?_
   try simp (maxSteps:=9^9) only[go_sem]
   rw [e]
   simp [hn]
theorem BigIntOf_fn (n:Int):Fn Tryz.prog 105 [⟨.int,n⟩] true [⟨tBig,bigD n⟩]:=by
 by_cases h1:n=-9223372036854775808
 ·subst h1
  have hm:=l03Make_to (s:=true) (n:=9223372036854775808) (z:=-9223372036854775808) rfl (Nat.le_trans (natL_len3 (n:=9223372036854775808) (by decide)) (by decide))
  rw [natL_minInt] at hm
  refine fn_enter tabOK mixes Tryz.func105 rfl rfl _ Tryz.ntmps105 _ Tryz.results105 (by simp) fun hwf=>?_
  try simp (maxSteps:=9^9) only[go_sem]
  repeat refine And.intro (by first|omega|(constructor<;>omega)|kernel_rfl) ?_
  refine CallW.mk (hm) ?_
  try simp (maxSteps:=9^9) only[go_sem]
  all_goals repeat refine And.intro (by first|omega|(constructor<;>omega)|kernel_rfl) ?_
  all_goals first|kernel_rfl|omega|rfl
 ·refine fn_enter tabOK mixes Tryz.func105 rfl rfl _ Tryz.ntmps105 _ Tryz.results105 (by simp) fun hwf=>?_
  have hI:I64 n:=hwf ⟨.int,n⟩ (by simp)
  have hI1:=hI.1
  have hI2:=hI.2
  try simp (maxSteps:=9^9) only[go_sem]
  refine CondW_dec (fun h=>absurd h h1) (fun _=>?_)
  try simp (maxSteps:=9^9) only[go_sem]
  refine CondW_dec (fun hn=>?_) (fun hn=>?_)
  ·have hm:=l03Make_to (s:=true) (n:=(-n).toNat) (z:=n) (by unfold sgn; simp; omega) (Nat.le_trans (natL_len3 (n:=-n) (by omega)) (by decide))
   try simp (maxSteps:=9^9) only[go_sem]
   repeat refine And.intro (by first|omega|(constructor<;>omega)|kernel_rfl) ?_
   refine CallW.mk (specNatOf_fn (-n)) ?_
   try simp (maxSteps:=9^9) only[go_sem]
   repeat refine And.intro (by first|omega|(constructor<;>omega)|kernel_rfl) ?_
   refine CallW.mk (hm) ?_
   try simp (maxSteps:=9^9) only[go_sem]
   all_goals repeat refine And.intro (by first|omega|(constructor<;>omega)|kernel_rfl) ?_
   all_goals first|kernel_rfl|omega|rfl
  ·have hm:=l03Make_to (s:=false) (n:=n.toNat) (z:=n) (by unfold sgn; simp; omega) (Nat.le_trans (natL_len3 (n:=n) (by omega)) (by decide))
   try simp (maxSteps:=9^9) only[go_sem]
   repeat refine And.intro (by first|omega|(constructor<;>omega)|kernel_rfl) ?_
   refine CallW.mk (specNatOf_fn n) ?_
   try simp (maxSteps:=9^9) only[go_sem]
   repeat refine And.intro (by first|omega|(constructor<;>omega)|kernel_rfl) ?_
   refine CallW.mk (hm) ?_
   try simp (maxSteps:=9^9) only[go_sem]
   all_goals repeat refine And.intro (by first|omega|(constructor<;>omega)|kernel_rfl) ?_
   all_goals first|kernel_rfl|omega|rfl
def ratI (n:Int):DR:=(bigD n,[1])
theorem ratI_eq (n:Int):ratI n=ratD (n:Rat):=by
 rw [ratI,ratD,Rat.num_intCast,Rat.den_intCast,natL_1]
attribute [go_sem] ratI
theorem ratInt_fn (n:Int):Fn Tryz.prog 64 [⟨.int,n⟩] true [⟨tRat,ratI n⟩]:=by
 refine fn_enter tabOK mixes Tryz.func64 rfl rfl _ Tryz.ntmps64 _ Tryz.results64 (by simp) fun hwf=>?_
 try simp (maxSteps:=9^9) only[go_sem]
 repeat refine And.intro (by first|omega|(constructor<;>omega)|kernel_rfl) ?_
 refine CallW.mk (bigOf_fn n) ?_
 try simp (maxSteps:=9^9) only[go_sem]
 all_goals repeat refine And.intro (by first|omega|(constructor<;>omega)|kernel_rfl) ?_
 all_goals first|kernel_rfl|omega|rfl
theorem RatFromInt_fn (n:Int):Fn Tryz.prog 86 [⟨.int,n⟩] true [⟨tRat,ratI n⟩]:=by
 refine fn_enter tabOK mixes Tryz.func86 rfl rfl _ Tryz.ntmps86 _ Tryz.results86 (by simp) fun hwf=>?_
 try simp (maxSteps:=9^9) only[go_sem]
 repeat refine And.intro (by first|omega|(constructor<;>omega)|kernel_rfl) ?_
 refine CallW.mk (BigIntOf_fn n) ?_
 try simp (maxSteps:=9^9) only[go_sem]
 all_goals repeat refine And.intro (by first|omega|(constructor<;>omega)|kernel_rfl) ?_
 all_goals first|kernel_rfl|omega|rfl
end Go.Proofs.YtaflkgjckmfkoaaGreat.DW

namespace Go.Proofs.YtaflkgjckmfkoaaGreat.DW
open Go.RowKit
end Go.Proofs.YtaflkgjckmfkoaaGreat.DW

namespace Go.Proofs.YtaflkgjckmfkoaaGreat
open Go.RowKit in
theorem Has.of {α:Type} {A:Rp α} {w:World} {cs:List Value} {a:α} {fp:List Nat} (h:A.rep w cs a fp):Has A w cs a:=⟨fp,h⟩
end Go.Proofs.YtaflkgjckmfkoaaGreat

namespace Go.Proofs.YtaflkgjckmfkoaaGreat.DW
open Go.RowKit
theorem okR_len {r:DR} (h:okR r=true):r.1.2.length<=24/\r.2.length<=24:=by
 obtain ⟨p,hp,rfl,_⟩:=okR_t h
 exact hp
end Go.Proofs.YtaflkgjckmfkoaaGreat.DW

namespace Go.Proofs.YtaflkgjckmfkoaaGreat.DW
open Go.RowKit
end Go.Proofs.YtaflkgjckmfkoaaGreat.DW

namespace Go.Proofs.YtaflkgjckmfkoaaGreat.DW
open Go.RowKit
end Go.Proofs.YtaflkgjckmfkoaaGreat.DW

namespace Go.Proofs.YtaflkgjckmfkoaaGreat.DW
open Go.RowKit
theorem ratMul_fn (x y:Option Rat) (hx:okO x) (hy:okO y):Fn Tryz.prog 29 [⟨tRat,oD x⟩,⟨tRat,oD y⟩] true [⟨tRat,oD (mulO x y)⟩]:=by
 cases x with
 | none =>
  refine fn_enter tabOK mixes Tryz.func29 rfl rfl _ Tryz.ntmps29 _ Tryz.results29 (by simp) fun hwf=>?_
  try simp (maxSteps:=9^9) only[go_sem]
  repeat refine And.intro (by first|omega|(constructor<;>omega)|kernel_rfl) ?_
  refine CallW.mk (isGood_n) ?_
  try simp (maxSteps:=9^9) only[go_sem]
  try simp (maxSteps:=9^9) only[go_sem,mulO]
 | some p =>
  cases y with
  | none =>
   refine fn_enter tabOK mixes Tryz.func29 rfl rfl _ Tryz.ntmps29 _ Tryz.results29 (by simp) fun hwf=>?_
   try simp (maxSteps:=9^9) only[go_sem]
   repeat refine And.intro (by first|omega|(constructor<;>omega)|kernel_rfl) ?_
   refine CallW.mk (isGood_s p) ?_
   try simp (maxSteps:=9^9) only[go_sem]
   repeat refine And.intro (by first|omega|(constructor<;>omega)|kernel_rfl) ?_
   refine CallW.mk (isGood_n) ?_
   try simp (maxSteps:=9^9) only[go_sem]
   try simp (maxSteps:=9^9) only[go_sem,mulO]
  | some q =>
   obtain ⟨p1,p2⟩:=hx p rfl
   obtain ⟨q1,q2⟩:=hy q rfl
   have b1:=nl_mulI p.num q.num
   have b4:=nl_mul p.den q.den
   have hm:=ratMake_end (p.num * q.num) (p.den * q.den) (den_mul_ne p q) (by omega) (by omega)
   rw [<-mul_mk] at hm
   have e:mulO (some p) (some q)=capR (p * q):=rfl
   rw [e]
   refine fn_enter tabOK mixes Tryz.func29 rfl rfl _ Tryz.ntmps29 _ Tryz.results29 (by simp) fun hwf=>?_
   try simp (maxSteps:=9^9) only[go_sem]
   repeat refine And.intro (by first|omega|(constructor<;>omega)|kernel_rfl) ?_
   refine CallW.mk (isGood_s p) ?_
   try simp (maxSteps:=9^9) only[go_sem]
   repeat refine And.intro (by first|omega|(constructor<;>omega)|kernel_rfl) ?_
   refine CallW.mk (isGood_s q) ?_
   try simp (maxSteps:=9^9) only[go_sem]
   repeat refine And.intro (by first|omega|(constructor<;>omega)|kernel_rfl) ?_
   refine CallW.mk (bigMul_fn p.num q.num (by omega) (by omega)) ?_
   try simp (maxSteps:=9^9) only[go_sem]
   repeat refine And.intro (by first|omega|(constructor<;>omega)|kernel_rfl) ?_
   refine CallW.mk (natMul_fn p.den q.den (by omega) (by omega)) ?_
   try simp (maxSteps:=9^9) only[go_sem]
   repeat refine And.intro (by first|omega|(constructor<;>omega)|kernel_rfl) ?_
   refine CallW.mk (hm) ?_
   try simp (maxSteps:=9^9) only[go_sem]
   all_goals repeat refine And.intro (by first|omega|(constructor<;>omega)|kernel_rfl) ?_
   all_goals first|kernel_rfl|omega|rfl
theorem ratMin_fn (x y:Option Rat) (hx:okO x) (hy:okO y):Fn Tryz.prog 58 [⟨tRat,oD x⟩,⟨tRat,oD y⟩] false [⟨tRat,oD (minO x y)⟩]:=by
 cases x with
 | none =>
  refine fn_enter tabOK mixes Tryz.func58 rfl rfl _ Tryz.ntmps58 _ Tryz.results58 (by simp) fun hwf=>?_
  try simp (maxSteps:=9^9) only[go_sem]
  repeat refine And.intro (by first|omega|(constructor<;>omega)|kernel_rfl) ?_
  refine CallW.mk (isGood_n) ?_
  try simp (maxSteps:=9^9) only[go_sem]
  try simp (maxSteps:=9^9) only[go_sem,minO]
 | some p =>
  cases y with
  | none =>
   refine fn_enter tabOK mixes Tryz.func58 rfl rfl _ Tryz.ntmps58 _ Tryz.results58 (by simp) fun hwf=>?_
   try simp (maxSteps:=9^9) only[go_sem]
   repeat refine And.intro (by first|omega|(constructor<;>omega)|kernel_rfl) ?_
   refine CallW.mk (isGood_s p) ?_
   try simp (maxSteps:=9^9) only[go_sem]
   repeat refine And.intro (by first|omega|(constructor<;>omega)|kernel_rfl) ?_
   refine CallW.mk (isGood_n) ?_
   try simp (maxSteps:=9^9) only[go_sem]
   try simp (maxSteps:=9^9) only[go_sem,minO]
  | some q =>
   have hc:=ratCmp_fn (some p) (some q) hx hy
   have e:cmpO (some p) (some q)=cmpQ p q:=rfl
   rw [e] at hc
   by_cases h:cmpQ p q<=0
   ·have e2:minO (some p) (some q)=some p:=if_pos h
    rw [e2]
    refine fn_enter tabOK mixes Tryz.func58 rfl rfl _ Tryz.ntmps58 _ Tryz.results58 (by simp) fun hwf=>?_
    try simp (maxSteps:=9^9) only[go_sem]
    repeat refine And.intro (by first|omega|(constructor<;>omega)|kernel_rfl) ?_
    refine CallW.mk (isGood_s p) ?_
    try simp (maxSteps:=9^9) only[go_sem]
    repeat refine And.intro (by first|omega|(constructor<;>omega)|kernel_rfl) ?_
    refine CallW.mk (isGood_s q) ?_
    try simp (maxSteps:=9^9) only[go_sem]
    repeat refine And.intro (by first|omega|(constructor<;>omega)|kernel_rfl) ?_
    refine CallW.mk (hc) ?_
    try simp (maxSteps:=9^9) only[go_sem]
    try simp (maxSteps:=9^9) only[go_sem,h]
   ·have e2:minO (some p) (some q)=some q:=if_neg h
    rw [e2]
    refine fn_enter tabOK mixes Tryz.func58 rfl rfl _ Tryz.ntmps58 _ Tryz.results58 (by simp) fun hwf=>?_
    try simp (maxSteps:=9^9) only[go_sem]
    repeat refine And.intro (by first|omega|(constructor<;>omega)|kernel_rfl) ?_
    refine CallW.mk (isGood_s p) ?_
    try simp (maxSteps:=9^9) only[go_sem]
    repeat refine And.intro (by first|omega|(constructor<;>omega)|kernel_rfl) ?_
    refine CallW.mk (isGood_s q) ?_
    try simp (maxSteps:=9^9) only[go_sem]
    repeat refine And.intro (by first|omega|(constructor<;>omega)|kernel_rfl) ?_
    refine CallW.mk (hc) ?_
    try simp (maxSteps:=9^9) only[go_sem]
    try simp (maxSteps:=9^9) only[go_sem,h]
end Go.Proofs.YtaflkgjckmfkoaaGreat.DW
