/- Texts of this claim, put together: Gf, Field, Fld, Pol, Rs, Rep, Sol, Cod, EscA, EscB, BookA, BookB, BookC, EscC, EscD, EscE, EscF, EscG, EscH, EscI, EscJ, EscK, EscL, EscM, EscN, EscO, EscP, EscQ, EscR, EscS, EscT, EscU, EscV, EscPw, BookD, EscW, Spec32 -/
import Derived.Test.YteomkfcfhlljkaaDoorAllFwmlkaep
import Derived.Test.YteomkfcfhlljkaaDoorAllShBaghpkf
namespace Go.Gf
def xt(a:Nat):Nat:=if a &&& 128=0 then a*2 % 256 else(a*2 % 256) ^^^ 27
def mulG:Nat→Nat→Nat→Nat→Nat
 | 0,_,_,p=>p
 | n+1,a,b,p=>mulG n (xt a) (b / 2) (if b % 2=1 then p ^^^ a else p)
def mul(a b:Nat):Nat:=mulG 8 a b 0
theorem K_us:∀ (n a p:Nat),mulG n a 0 p=p
 | 0,_,_=>rfl
 | n+1,a,p=>by simp[mulG,K_us n]
theorem xt_lt{a:Nat}:xt a<256:=by
 unfold xt
 split
 ·omega
 ·exact Nat.xor_lt_two_pow (n:=8) (by omega) (by omega)
theorem K_z4:∀ (n a b p:Nat),a<256→p<256→mulG n a b p<256
 | 0,_,_,_,_,hp=>hp
 | n+1,a,b,p,ha,hp=>by
  unfold mulG
  refine K_z4 n _ _ _ xt_lt ?_
  split
  ·exact Nat.xor_lt_two_pow (n:=8) hp ha
  ·exact hp
theorem K_16o{a b:Nat}(ha:a<256):mul a b<256:=K_z4 8 a b 0 ha (by decide)
end Go.Gf

set_option linter.unusedVariables false
namespace Go.Sh
open Go.Fw Go.Gf Go.RowKit Go.Proofs.Tryd
theorem xor8{a b:Nat}(ha:a<256)(hb:b<256):bits .xor .u8 (a:Int) (b:Int)=((a ^^^ b:Nat):Int):=(K_7x (k:=.u8) rfl ha hb).2.2
theorem and8{a b:Nat}(ha:a<256)(hb:b<256):bits .and .u8 (a:Int) (b:Int)=((a &&& b:Nat):Int):=(K_7x (k:=.u8) rfl ha hb).1
theorem shl8{a:Nat}(k:Nat):IntKind.u8.wrap ((a:Int)*2 ^ k)=((a*2 ^ k % 256:Nat):Int):=by
 rw[IntKind.wrap_u8];simp
theorem K_zz(K:Nat):∀ (d n a b p:Nat),d≤8→a<256→p<256→b<2 ^ d→d<n→K_1s K n (a:Int) (b:Int) (p:Int)=some (.norm (((mulG d a b p:Nat):Int),())):=by
 intro d
 induction d with
 | zero=>
  intro n a b p hd ha hp hb hn
  obtain⟨n,rfl⟩:∃ m,n=m+1:=⟨n - 1,by omega⟩
  have:b=0:=by simpa using hb
  subst this
  show K_2m K (K_1s K n) (a:Int) ((0:Nat):Int) (p:Int)=_
  simp[K_2m,mulG]
 | succ d ih=>
  intro n a b p hd ha hp hb hn
  obtain⟨n,rfl⟩:∃ m,n=m+1:=⟨n - 1,by omega⟩
  show K_2m K (K_1s K n) (a:Int) (b:Int) (p:Int)=_
  by_cases h0:b=0
  ·subst h0
   simp[K_2m,K_us]
  ·have hb256:b<256:=by
    have:2 ^ (d+1)≤2 ^ 8:=Nat.pow_le_pow_right (by decide) hd
    omega
   have e0:(((b:Nat):Int) != 0)=true:=by simp;omega
   have e1:bits .and .u8 (b:Int) 1=((b % 2:Nat):Int):=by
    have:=and8 hb256 (show 1<256 by decide)
    rw[Nat.and_one_is_mod]at this;exact this
   have e2:bits .and .u8 (a:Int) 128=((a &&& 128:Nat):Int):=and8 ha (show 128<256 by decide)
   have e3:IntKind.u8.wrap ((a:Int)*2 ^ 1)=((a*2 % 256:Nat):Int):=by rw[shl8]
   have e4:bits .xor .u8 ((a*2 % 256:Nat):Int) 27=(((a*2 % 256) ^^^ 27:Nat):Int):=xor8 (by omega) (show 27<256 by decide)
   have e5:Int.fdiv (b:Int) (2 ^ 1)=((b / 2:Nat):Int):=K_g3 b 1
   have hs:K_5i K (a:Int) (p:Int) (((b % 2:Nat):Int) != 0)=some (.norm (((if b % 2=1 then p ^^^ a else p:Nat):Int),())):=by
    unfold K_5i
    by_cases h1:b % 2=1
    ·rw[h1,xor8 hp ha];simp
    ·have h2:b % 2=0:=by omega
     rw[h2];simp
   have hp':(if b % 2=1 then p ^^^ a else p)<256:=by
    split
    ·exact Nat.xor_lt_two_pow (n:=8) hp ha
    ·exact hp
   have ih':=ih n (xt a) (b / 2) _ (by omega) xt_lt hp' (by rw[Nat.pow_succ]at hb;omega) (by omega)
   unfold K_2m
   rw[e0,if_pos rfl,e1,hs,J_bs]
   simp only[e2,e3,e4,e5]
   rw[mulG,←ih']
   by_cases hx:a &&& 128=0
   ·have:xt a=a*2 % 256:=by unfold xt;rw[if_pos hx]
    rw[hx,this];simp
   ·have:xt a=(a*2 % 256) ^^^ 27:=by unfold xt;rw[if_neg hx]
    have h3:((((a &&& 128:Nat):Int)) != 0)=true:=by simp;omega
    rw[this,h3,if_pos rfl]
theorem K_142{K:Nat}(hK:300≤K){a b:Nat}(ha:a<256)(hb:b<256):K_d K (a:Int) (b:Int)=some (((mul a b:Nat):Int),()):=by
 have h:=K_zz K 8 K a b 0 (by decide) ha (by decide) hb (by omega)
 have h:K_1s K K (a:Int) (b:Int) 0=_:=h
 unfold K_d
 rw[h,J_bs]
 rfl
end Go.Sh

set_option maxRecDepth 100000
namespace Go.Gf
theorem K_15y{a b:Nat}(ha:a<256)(hb:b<256):xt (a ^^^ b)=xt a ^^^ xt b:=by
 have hh:∀ x,x<256→x &&& 128=0∨x &&& 128=128:=by decide+kernel
 have em:(a ^^^ b)*2 % 256=(a*2 % 256) ^^^ (b*2 % 256):=by
  have e1:∀ x:Nat,x*2 % 256=(x <<< 1) % 2 ^ 8:=fun x=>by rw[Nat.shiftLeft_eq]
  rw[e1,e1,e1,Nat.shiftLeft_xor_distrib,Nat.xor_mod_two_pow]
 have ea:(a ^^^ b) &&& 128=(a &&& 128) ^^^ (b &&& 128):=Nat.and_xor_distrib_right ..
 unfold xt
 rw[ea,em]
 obtain⟨x,hx⟩:∃ x,x=a*2 % 256:=⟨_,rfl⟩
 obtain⟨y,hy⟩:∃ y,y=b*2 % 256:=⟨_,rfl⟩
 rw[←hx,←hy]
 rcases hh a ha with h1 | h1 <;> rcases hh b hb with h2 | h2 <;> rw[h1,h2]
 ·rfl
 ·rw[if_neg (by decide),if_pos rfl,if_neg (by decide)];ac_rfl
 ·rw[if_neg (by decide),if_neg (by decide),if_pos rfl];ac_rfl
 ·rw[if_pos (by decide),if_neg (by decide),if_neg (by decide)]
  have:(x ^^^ 27) ^^^ (y ^^^ 27)=(x ^^^ y) ^^^ (27 ^^^ 27):=by ac_rfl
  rw[this,Nat.xor_self,Nat.xor_zero]
theorem K_ru:∀ (n a a' m p p':Nat),a<256→a'<256→mulG n (a ^^^ a') m (p ^^^ p')=mulG n a m p ^^^ mulG n a' m p'
 | 0,_,_,_,_,_,_,_=>rfl
 | n+1,a,a',m,p,p',ha,ha'=>by
  unfold mulG
  rw[K_15y ha ha']
  by_cases c:m % 2=1
  ·rw[if_pos c,if_pos c,if_pos c]
   have:(p ^^^ p') ^^^ (a ^^^ a')=(p ^^^ a) ^^^ (p' ^^^ a'):=by ac_rfl
   rw[this]
   exact K_ru n _ _ _ _ _ xt_lt xt_lt
  ·rw[if_neg c,if_neg c,if_neg c]
   exact K_ru n _ _ _ _ _ xt_lt xt_lt
theorem K_154{a b:Nat}(ha:a<256)(hb:b<256)(m:Nat):mul (a ^^^ b) m=mul a m ^^^ mul b m:=K_ru 8 a b m 0 0 ha hb
theorem K_sh(m n:Nat):(m ^^^ n) % 2=(m % 2+n % 2) % 2:=by
 have h:=Nat.testBit_xor m n 0
 rw[Nat.testBit_zero,Nat.testBit_zero,Nat.testBit_zero]at h
 rcases Nat.mod_two_eq_zero_or_one m with h1 | h1 <;> rcases Nat.mod_two_eq_zero_or_one n with h2 | h2 <;> rcases Nat.mod_two_eq_zero_or_one (m ^^^ n) with h3 | h3 <;> rw[h1,h2,h3]at h <;> rw[h1,h2,h3] <;> simp at h ⊢
theorem K_uj:∀ (n a m m' p p':Nat),mulG n a (m ^^^ m') (p ^^^ p')=mulG n a m p ^^^ mulG n a m' p'
 | 0,_,_,_,_,_=>rfl
 | n+1,a,m,m',p,p'=>by
  unfold mulG
  have e1:(m ^^^ m') / 2=m / 2 ^^^ m' / 2:=Nat.xor_div_two
  have e2:(m ^^^ m') % 2=(m % 2+m' % 2) % 2:=K_sh m m'
  rw[e1]
  have key:(if (m ^^^ m') % 2=1 then p ^^^ p' ^^^ a else p ^^^ p')=(if m % 2=1 then p ^^^ a else p) ^^^ (if m' % 2=1 then p' ^^^ a else p'):=by
   rw[e2]
   rcases Nat.mod_two_eq_zero_or_one m with h1 | h1 <;> rcases Nat.mod_two_eq_zero_or_one m' with h2 | h2 <;> rw[h1,h2]
   ·rfl
   ·rw[if_pos (by decide),if_neg (by decide),if_pos rfl];ac_rfl
   ·rw[if_pos (by decide),if_pos rfl,if_neg (by decide)];ac_rfl
   ·rw[if_neg (by decide),if_pos rfl,if_pos rfl]
    have:(p ^^^ a) ^^^ (p' ^^^ a)=(p ^^^ p') ^^^ (a ^^^ a):=by ac_rfl
    rw[this,Nat.xor_self,Nat.xor_zero]
  rw[key]
  exact K_uj n _ _ _ _ _
theorem K_133(a m m':Nat):mul a (m ^^^ m')=mul a m ^^^ mul a m':=K_uj 8 a m m' 0 0
structure F where
 n:Nat
 lt:n<256
deriving DecidableEq
theorem F.ext'{a b:F}(h:a.n=b.n):a=b:=by
 cases a;cases b;cases h;rfl
instance:Add F:=⟨fun a b=>⟨a.n ^^^ b.n,Nat.xor_lt_two_pow (n:=8) a.lt b.lt⟩⟩
instance:Mul F:=⟨fun a b=>⟨mul a.n b.n,K_16o a.lt⟩⟩
instance:OfNat F 0:=⟨⟨0,by decide⟩⟩
instance:OfNat F 1:=⟨⟨1,by decide⟩⟩
theorem F.add_n(a b:F):(a+b).n=a.n ^^^ b.n:=rfl
theorem F.zero_n:(0:F).n=0:=rfl
theorem F.add_comm(a b:F):a+b=b+a:=F.ext' (Nat.xor_comm _ _)
theorem F.add_assoc(a b c:F):a+b+c=a+(b+c):=F.ext' (Nat.xor_assoc _ _ _)
theorem F.add_left_comm(a b c:F):a+(b+c)=b+(a+c):=by rw[←F.add_assoc,F.add_comm a b,F.add_assoc]
theorem F.add_zero(a:F):a+0=a:=F.ext' (Nat.xor_zero _)
theorem F.zero_add(a:F):0+a=a:=F.ext' (Nat.zero_xor _)
theorem F.add_self(a:F):a+a=0:=F.ext' (Nat.xor_self _)
theorem F.add_cancel(a b:F):a+(a+b)=b:=by rw[←F.add_assoc,F.add_self,F.zero_add]
theorem F.add_mul(a b c:F):(a+b)*c=a*c+b*c:=F.ext' (K_154 a.lt b.lt _)
theorem F.mul_add(a b c:F):a*(b+c)=a*b+a*c:=F.ext' (K_133 _ _ _)
theorem F.eq_of_add{a b:F}(h:a+b=0):a=b:=by
 have:=congrArg (· +b) h
 simp only[F.add_assoc,F.add_self,F.add_zero,F.zero_add]at this
 exact this
theorem F.zero_mul(a:F):0*a=0:=by
 have:=F.add_mul 0 0 a
 rw[F.add_self,F.add_self]at this
 exact this
theorem F.mul_zero(a:F):a*0=0:=by
 have:=F.mul_add a 0 0
 rw[F.add_self,F.add_self]at this
 exact this
def bit(k:Nat):F:=if h:k<8 then⟨2 ^ k,Nat.lt_of_lt_of_le (Nat.pow_lt_pow_right (by decide) h) (Nat.le_refl _)⟩ else 0
theorem F.lin{f g:F→F}(hf:∀ a b,f (a+b)=f a+f b)(hg:∀ a b,g (a+b)=g a+g b)(hb:∀ k,k<8→f (bit k)=g (bit k)):∀ a,f a=g a:=by
 have key:∀ n,n≤8→∀ a:F,a.n<2 ^ n→f a=g a:=by
  intro n
  induction n with
  | zero=>
   intro _ a h
   have h0:a=0:=F.ext' (by have:(2:Nat) ^ 0=1:=rfl;rw[F.zero_n];omega)
   subst h0
   have h1:=hf 0 0
   have h2:=hg 0 0
   rw[F.add_self,F.add_self]at h1 h2
   rw[h1,h2]
  | succ n ih=>
   intro hn a h
   have h2:(2:Nat) ^ (n+1)=2 ^ n+2 ^ n:=by rw[Nat.pow_succ];omega
   by_cases c:a.n<2 ^ n
   ·exact ih (by omega) a c
   ·have hx:a.n ^^^ 2 ^ n<2 ^ n:=by
     have hbit:a.n.testBit n=true:=by
      rw[Nat.testBit_eq_decide_div_mod_eq]
      have:a.n / 2 ^ n=1:=by
       have hp:0<2 ^ n:=Nat.two_pow_pos n
       apply Nat.div_eq_of_lt_le <;> omega
      rw[this];decide
     apply Nat.lt_pow_two_of_testBit
     intro i hi
     rw[Nat.testBit_xor,Nat.testBit_two_pow]
     by_cases e:n=i
     ·subst e;simp[hbit]
     ·have:a.n<2 ^ i:=Nat.lt_of_lt_of_le h (Nat.pow_le_pow_right (by decide) (by omega))
      simp[e,Nat.testBit_lt_two_pow this]
    have hbn:(bit n).n=2 ^ n:=by unfold bit;rw[dif_pos (by omega)]
    have ea:a=(a+bit n)+bit n:=by rw[F.add_assoc,F.add_self,F.add_zero]
    rw[ea,hf,hg,hb n (by omega),ih (by omega) (a+bit n) (by rw[F.add_n,hbn];exact hx)]
 intro a
 exact key 8 (Nat.le_refl _) a a.lt
theorem F.mul_comm(a b:F):a*b=b*a:=by
 have h:∀ i,i<8→∀ j,j<8→bit i*bit j=bit j*bit i:=by decide+kernel
 refine F.lin (f:=fun a=>a*b) (g:=fun a=>b*a) (fun x y=>F.add_mul x y b) (fun x y=>F.mul_add b x y) (fun i hi=>?_) a
 exact F.lin (f:=fun b=>bit i*b) (g:=fun b=>b*bit i) (fun x y=>F.mul_add _ x y) (fun x y=>F.add_mul x y _) (fun j hj=>h i hi j hj) b
theorem F.mul_assoc(a b c:F):a*b*c=a*(b*c):=by
 have h:∀ i,i<8→∀ j,j<8→∀ k,k<8→bit i*bit j*bit k=bit i*(bit j*bit k):=by decide+kernel
 refine F.lin (f:=fun a=>a*b*c) (g:=fun a=>a*(b*c)) (fun x y=>by simp only[F.add_mul]) (fun x y=>F.add_mul x y _) (fun i hi=>?_) a
 refine F.lin (f:=fun b=>bit i*b*c) (g:=fun b=>bit i*(b*c)) (fun x y=>by simp only[F.add_mul,F.mul_add]) (fun x y=>by simp only[F.add_mul,F.mul_add]) (fun j hj=>?_) b
 exact F.lin (f:=fun c=>bit i*bit j*c) (g:=fun c=>bit i*(bit j*c)) (fun x y=>F.mul_add _ x y) (fun x y=>by simp only[F.mul_add]) (fun k hk=>h i hi j hj k hk) c
theorem F.mul_left_comm(a b c:F):a*(b*c)=b*(a*c):=by rw[←F.mul_assoc,F.mul_comm a b,F.mul_assoc]
theorem F.one_mul(a:F):1*a=a:=
 F.lin (f:=fun a=>1*a) (g:=fun a=>a) (fun x y=>F.mul_add _ x y) (fun _ _=>rfl) (by decide+kernel) a
theorem F.mul_one(a:F):a*1=a:=by rw[F.mul_comm,F.one_mul]
def F.pow(a:F):Nat→F
 | 0=>1
 | n+1=>F.pow a n*a
theorem F.pow_zero(a:F):F.pow a 0=1:=rfl
theorem F.pow_succ(a:F)(n:Nat):F.pow a (n+1)=F.pow a n*a:=rfl
theorem F.pow_add(a:F)(m:Nat):∀ n,F.pow a (m+n)=F.pow a m*F.pow a n
 | 0=>(F.mul_one _).symm
 | n+1=>by rw[←Nat.add_assoc,F.pow_succ,F.pow_add a m n,F.pow_succ,F.mul_assoc]
theorem F.pow_mul(a:F)(m:Nat):∀ n,F.pow a (m*n)=F.pow (F.pow a m) n
 | 0=>rfl
 | n+1=>by rw[Nat.mul_succ,F.pow_add,F.pow_mul a m n,F.pow_succ]
theorem F.one_pow:∀ n,F.pow 1 n=1
 | 0=>rfl
 | n+1=>by rw[F.pow_succ,F.one_pow n,F.mul_one]
def invG:Nat→F→F→F
 | 0,_,v=>v
 | n+1,b,v=>invG n (b*b) (v*(b*b))
def F.inv(b:F):F:=invG 7 b 1
theorem F.mul_inv{a:F}(h:a≠0):a*a.inv=1:=by
 have key:∀ n,n<256→n≠0→∀ h:n<256,(⟨n,h⟩:F)*F.inv ⟨n,h⟩=1:=by decide+kernel
 exact key a.n a.lt (fun e=>h (F.ext' e)) a.lt
theorem F.inv_mul{a:F}(h:a≠0):a.inv*a=1:=by rw[F.mul_comm,F.mul_inv h]
theorem F.mul_eq_zero{a b:F}(h:a*b=0):a=0∨b=0:=by
 by_cases ha:a=0
 ·exact .inl ha
 ·right
  have:=congrArg (a.inv* ·) h
  simp only[←F.mul_assoc,F.inv_mul ha,F.one_mul,F.mul_zero]at this
  exact this
theorem F.mul_ne_zero{a b:F}(ha:a≠0)(hb:b≠0):a*b≠0:=fun h=>(F.mul_eq_zero h).elim ha hb
theorem F.mul_cancel{a b c:F}(ha:a≠0)(h:a*b=a*c):b=c:=by
 have:=congrArg (a.inv* ·) h
 simp only[←F.mul_assoc,F.inv_mul ha,F.one_mul]at this
 exact this
theorem F.add_ne_zero{a b:F}(h:a≠b):a+b≠0:=fun e=>h (F.eq_of_add e)
theorem F.one_ne_zero:(1:F)≠0:=by decide
def F.three:F:=⟨3,by decide⟩
theorem K_148:F.pow F.three 255=1:=by decide+kernel
theorem K_14v{k:Nat}(h0:0<k)(h:k<255):F.pow F.three k≠1:=by
 have key:∀ k,k<255→0<k→F.pow F.three k≠1:=by decide+kernel
 exact key k h h0
theorem K_yy(k:Nat):F.pow F.three k≠0:=by
 induction k with
 | zero=>exact F.one_ne_zero
 | succ k ih=>exact F.mul_ne_zero ih (by decide)
theorem K_132(k:Nat):F.pow F.three (k % 255)=F.pow F.three k:=by
 have:=Nat.div_add_mod k 255
 rw[←this,F.pow_add,F.pow_mul,K_148,F.one_pow,F.one_mul,Nat.mul_add_mod,Nat.mod_mod]
theorem K_lz{i j:Nat}(hi:i<255)(hj:j<255)(h:F.pow F.three i=F.pow F.three j):i=j:=by
 have key:∀ i j,i≤j→j<255→F.pow F.three i=F.pow F.three j→i=j:=by
  intro i j hij hj h
  obtain⟨d,rfl⟩:∃ d,j=i+d:=⟨j - i,by omega⟩
  cases d with
  | zero=>rfl
  | succ d=>
   rw[F.pow_add]at h
   have:=F.mul_cancel (K_yy i) ((F.mul_one _).trans h)
   exact absurd this.symm (K_14v (by omega) (by omega))
 rcases Nat.le_total i j with hc | hc
 ·exact key i j hc hj h
 ·exact(key j i hc hi h.symm).symm
end Go.Gf

namespace Go.Gf
def ev:List F→F→F
 | [],_=>0
 | c :: l,x=>c+x*ev l x
theorem K_sd(x:F):ev [] x=0:=rfl
theorem K_4a(c:F)(l:List F)(x:F):ev (c :: l) x=c+x*ev l x:=rfl
def syn(r:F):List F→List F
 | []=>[]
 | d :: l=>ev (d :: l) r :: syn r l
theorem K_t4(r:F):∀ l,(syn r l).length=l.length
 | []=>rfl
 | _ :: l=>by simp[syn,K_t4 r l]
theorem K_11e(r:F):∀ (l:List F) (x:F),ev l x=ev l r+(x+r)*(match l with | []=>0 | _ :: l'=>ev (syn r l') x)
 | [],x=>by simp[ev,F.mul_zero,F.add_zero]
 | [c],x=>by simp[ev,syn,F.mul_zero,F.add_zero]
 | c :: d :: l,x=>by
  have ih:=K_11e r (d :: l) x
  simp only at ih
  simp only[syn]
  rw[K_4a c,K_4a c (d :: l) r,ih,K_4a (ev (d :: l) r)]
  obtain⟨A,hA⟩:∃ A,ev (d :: l) r=A:=⟨_,rfl⟩
  obtain⟨B,hB⟩:∃ B,ev (syn r l) x=B:=⟨_,rfl⟩
  rw[hA,hB]
  simp only[F.mul_add,F.add_mul,F.add_assoc,F.add_comm,F.add_left_comm,F.mul_assoc,F.mul_comm,F.mul_left_comm,F.add_cancel,F.add_self,F.add_zero,F.zero_add]
theorem K_sg(l:List F)(x:F):∀ n,ev (l ++ List.replicate n 0) x=ev l x:=by
 induction l with
 | nil=>
  intro n
  induction n with
  | zero=>rfl
  | succ n ih=>
   rw[List.nil_append]at ih
   rw[List.nil_append,List.replicate_succ,K_4a,ih,K_sd,F.mul_zero,F.add_zero]
 | cons c l ih=>intro n;rw[List.cons_append,K_4a,ih,K_4a]
theorem K_wo(r:F):∀ l,(∀ c∈syn r l,c=0)→∀ c∈l,c=0
 | [],_=>by simp
 | d :: l,h=>by
  have h1:ev (d :: l) r=0:=h _ (by simp[syn])
  have h2:∀ c∈syn r l,c=0:=fun c hc=>h c (by simp[syn,hc])
  have h3:=K_wo r l h2
  have h4:ev l r=0:=by
   cases l with
   | nil=>rfl
   | cons e l=>exact h2 _ (by simp[syn])
  rw[K_4a,h4,F.mul_zero,F.add_zero]at h1
  intro c hc
  rcases List.mem_cons.1 hc with e | e
  ·rw[e];exact h1
  ·exact h3 c e
theorem K_r1:∀ (l:List F) (x:F),(∀ c∈l,c=0)→ev l x=0
 | [],_,_=>rfl
 | c :: l,x,h=>by rw[K_4a,h c (by simp),K_r1 l x (fun d hd=>h d (by simp[hd])),F.mul_zero,F.add_zero]
theorem K_x9:∀ (rs:List F) (l:List F),rs.Nodup→l.length≤rs.length→(∀ r∈rs,ev l r=0)→∀ c∈l,c=0
 | _,[],_,_,_=>by simp
 | [],c :: l,_,h,_=>by simp at h
 | r :: rs,c :: l,hn,hl,hr=>by
  have hn':=List.nodup_cons.1 hn
  have hq:∀ d∈syn r l,d=0:=by
   refine K_x9 rs (syn r l) hn'.2 (by rw[K_t4];simpa using hl) fun r' hr'=>?_
   have h1:=K_11e r (c :: l) r'
   simp only at h1
   rw[hr r' (by simp[hr']),hr r (by simp),F.zero_add]at h1
   have hne:r'+r≠0:=F.add_ne_zero fun e=>hn'.1 (e ▸ hr')
   exact(F.mul_eq_zero h1.symm).resolve_left hne
  have hz:=K_wo r l hq
  have h0:=hr r (by simp)
  rw[K_4a,K_r1 l r hz,F.mul_zero,F.add_zero]at h0
  intro d hd
  rcases List.mem_cons.1 hd with e | e
  ·rw[e];exact h0
  ·exact hz d e
def addL:List F→List F→List F
 | [],m=>m
 | l,[]=>l
 | a :: l,b :: m=>(a+b) :: addL l m
theorem K_qh:∀ l m:List F,l.length=m.length→(addL l m).length=l.length
 | [],m,h=>by simp at h;simp[addL,h]
 | a :: l,[],h=>by simp at h
 | a :: l,b :: m,h=>by simp[addL,K_qh l m (by simpa using h)]
theorem K_yi(x:F):∀ l m:List F,ev (addL l m) x=ev l x+ev m x
 | [],m=>by rw[K_sd,F.zero_add];rfl
 | a :: l,[]=>by rw[K_sd,F.add_zero];rfl
 | a :: l,b :: m=>by
  show (a+b)+x*ev (addL l m) x=(a+x*ev l x)+(b+x*ev m x)
  rw[K_yi x l m,F.mul_add]
  simp only[F.add_assoc,F.add_comm,F.add_left_comm]
def IsPoly(n:Nat)(f:F→F):Prop:=∃ l:List F,l.length=n∧∀ x,f x=ev l x
theorem IsPoly.add{n:Nat}{f g:F→F}(h:IsPoly n f)(h':IsPoly n g):IsPoly n (fun x=>f x+g x):=by
 obtain⟨l,hl,e⟩:=h;obtain⟨m,hm,e'⟩:=h'
 exact⟨addL l m,by rw[K_qh _ _ (by omega),hl],fun x=>by rw[K_yi,←e,←e']⟩
theorem IsPoly.smul{n:Nat}{f:F→F}(h:IsPoly n f)(c:F):IsPoly n (fun x=>f x*c):=by
 obtain⟨l,hl,e⟩:=h
 refine⟨l.map (· *c),by simp[hl],fun x=>?_⟩
 show f x*c=_
 rw[e]
 clear e hl
 induction l with
 | nil=>exact F.zero_mul c
 | cons a l ih=>rw[List.map_cons,K_4a,K_4a,←ih,F.add_mul,F.mul_assoc]
theorem IsPoly.mono{n m:Nat}{f:F→F}(h:IsPoly n f)(hm:n≤m):IsPoly m f:=by
 obtain⟨l,hl,e⟩:=h
 exact⟨l ++ List.replicate (m - n) 0,by simp[hl];omega,fun x=>by rw[e,K_sg]⟩
theorem IsPoly.zero(n:Nat):IsPoly n (fun _=>0):=IsPoly.mono (n:=0) ⟨[],rfl,fun _=>rfl⟩ (Nat.zero_le n)
theorem IsPoly.const(c:F):IsPoly 1 (fun _=>c):=⟨[c],rfl,fun x=>by rw[K_4a,K_sd,F.mul_zero,F.add_zero]⟩
theorem IsPoly.mulX{n:Nat}{f:F→F}(h:IsPoly n f)(a:F):IsPoly (n+1) (fun x=>f x*(x+a)):=by
 have h1:IsPoly (n+1) (fun x=>x*f x):=by
  obtain⟨l,hl,e⟩:=h
  exact⟨0 :: l,by simp[hl],fun x=>by rw[K_4a,F.zero_add,←e]⟩
 have h2:=IsPoly.add h1 ((h.smul a).mono (Nat.le_succ n))
 obtain⟨l,hl,e⟩:=h2
 exact⟨l,hl,fun x=>by rw[←e];show f x*(x+a)=x*f x+f x*a;rw[F.mul_add,F.mul_comm x]⟩
theorem IsPoly.ev(l:List F):IsPoly l.length (ev l):=⟨l,rfl,fun _=>rfl⟩
theorem IsPoly.ext{n:Nat}{f g:F→F}(h:IsPoly n f)(h':IsPoly n g){rs:List F}(hn:rs.Nodup)(hl:n≤rs.length)(ha:∀ r∈rs,f r=g r)(x:F):f x=g x:=by
 obtain⟨l,hll,e⟩:=h.add h'
 have hz:=K_x9 rs l hn (by omega) fun r hr=>by rw[←e];show f r+g r=0;rw[ha r hr,F.add_self]
 have:=e x
 rw[K_r1 l x hz]at this
 exact F.eq_of_add this
def wgt(x xi:F)(i:Nat):Nat→List F→F→F
 | _,[],w=>w
 | k,o :: os,w=>wgt x xi i (k+1) os (if k=i then w else w*((x+o)*(xi+o).inv))
theorem K_rv(xi:F)(i:Nat):∀ (os:List F) (k d:Nat) (f:F→F),IsPoly d f→IsPoly (d+os.length - (if k≤i∧i<k+os.length then 1 else 0)) (fun x=>wgt x xi i k os (f x))
 | [],k,d,f,h=>by
  rw[if_neg (fun c=>by have:=c.2;simp at this;omega)];exact h
 | o :: os,k,d,f,h=>by
  show IsPoly _ (fun x=>wgt x xi i (k+1) os (if k=i then f x else f x*((x+o)*(xi+o).inv)))
  by_cases c:k=i
  ·have:=K_rv xi i os (k+1) d f h
   rw[if_neg (by omega)]at this
   rw[if_pos ⟨by omega,by simp only[List.length_cons];omega⟩]
   have e:d+(o :: os).length - 1=d+os.length - 0:=by rw[List.length_cons];omega
   rw[e]
   simpa[c] using this
  ·have h2:IsPoly (d+1) (fun x=>f x*((x+o)*(xi+o).inv)):=by
    obtain⟨l,hl,e⟩:=(h.mulX o).smul (xi+o).inv
    exact⟨l,hl,fun x=>by rw[←e];show f x*((x+o)*(xi+o).inv)=f x*(x+o)*(xi+o).inv;rw[F.mul_assoc]⟩
   have:=K_rv xi i os (k+1) (d+1) _ h2
   have e:d+(o :: os).length - (if k≤i∧i<k+(o :: os).length then 1 else 0)=d+1+os.length - (if k+1≤i∧i<k+1+os.length then 1 else 0):=by
    have hl:(o :: os).length=os.length+1:=rfl
    rw[hl]
    by_cases q:k+1≤i∧i<k+1+os.length
    ·rw[if_pos q,if_pos (by omega)];omega
    ·rw[if_neg q,if_neg (by omega)];omega
   rw[e]
   simpa[c] using this
theorem K_x6(x xi:F)(i:Nat):∀ (os:List F) (k:Nat),wgt x xi i k os 0=0
 | [],_=>rfl
 | o :: os,k=>by simp[wgt,F.zero_mul,K_x6 x xi i os]
theorem K_oa(x xi:F)(i:Nat):∀ (os:List F) (k:Nat) (w:F) (j:Nat),os[j]? =some x→k+j≠i→wgt x xi i k os w=0
 | [],_,_,_,h,_=>by simp at h
 | o :: os,k,w,0,h,hne=>by
  obtain rfl:o=x:=by simpa using h
  simp only[wgt]
  rw[if_neg (by omega),F.add_self,F.zero_mul,F.mul_zero,K_x6]
 | o :: os,k,w,j+1,h,hne=>K_oa x xi i os (k+1) _ j (by simpa using h) (by omega)
theorem K_lj(xi:F)(i:Nat):∀ (os:List F) (k:Nat) (w:F),(∀ j o,os[j]? =some o→k+j≠i→o≠xi)→wgt xi xi i k os w=w
 | [],_,_,_=>rfl
 | o :: os,k,w,h=>by
  have h':∀ j o,os[j]? =some o→k+1+j≠i→o≠xi:=fun j o hj hne=>h (j+1) o (by simpa using hj) (by omega)
  simp only[wgt]
  by_cases c:k=i
  ·rw[if_pos c];exact K_lj xi i os (k+1) w h'
  ·rw[if_neg c,F.mul_inv (F.add_ne_zero fun e=>h 0 o rfl (by omega) e.symm),F.mul_one]
   exact K_lj xi i os (k+1) w h'
def lagG(all:List F)(x:F):Nat→List (F×F)→F→F
 | _,[],v=>v
 | i,p :: ps,v=>lagG all x (i+1) ps (v+wgt x p.1 i 0 all 1*p.2)
def lag(ps:List (F×F))(x:F):F:=lagG (ps.map (·.1)) x 0 ps 0
theorem K_v0{all:List F}{n:Nat}(hn:all.length=n):∀ (ps:List (F×F)) (i:Nat) (f:F→F),i+ps.length=n→IsPoly n f→IsPoly n (fun x=>lagG all x i ps (f x))
 | [],_,f,_,h=>h
 | p :: ps,i,f,hi,h=>by
  have hw:=K_rv p.1 i all 0 1 (fun _=>1) (IsPoly.const 1)
  rw[if_pos (by simp at hi;omega)]at hw
  refine K_v0 hn ps (i+1) _ (by simp at hi;omega) (h.add (IsPoly.smul (IsPoly.mono hw (by omega)) p.2))
theorem K_12r(ps:List (F×F)):IsPoly ps.length (lag ps):=
 K_v0 (all:=ps.map (·.1)) (by simp) ps 0 (fun _=>0) (by simp) (IsPoly.zero _)
theorem K_10k{l:List F}(h:l.Nodup){a b:Nat}{y:F}(ha:l[a]? =some y)(hb:l[b]? =some y):a=b:=by
 obtain⟨ha1,ha2⟩:=List.getElem?_eq_some_iff.1 ha
 obtain⟨hb1,hb2⟩:=List.getElem?_eq_some_iff.1 hb
 have hp:=List.pairwise_iff_getElem.1 h
 rcases Nat.lt_trichotomy a b with c | c | c
 ·exact absurd (ha2.trans hb2.symm) (hp a b ha1 hb1 c)
 ·exact c
 ·exact absurd (hb2.trans ha2.symm) (hp b a hb1 ha1 c)
theorem K_z0{all:List F}(hnd:all.Nodup){x:F}{j:Nat}(hj:all[j]? =some x):∀ (ps:List (F×F)) (i:Nat) (v:F),(∀ t p,ps[t]? =some p→all[i+t]? =some p.1)→
  lagG all x i ps v=v+(if h:i≤j then(match ps[j - i]? with | some p=>p.2 | none=>0) else 0)
 | [],i,v,_=>by simp[lagG,F.add_zero]
 | p :: ps,i,v,h=>by
  have hp:all[i]? =some p.1:=by simpa using h 0 p rfl
  have h':∀ t p,ps[t]? =some p→all[i+1+t]? =some p.1:=fun t q hq=>by
   have:=h (t+1) q (by simpa using hq)
   rwa [show i+(t+1)=i+1+t by omega]at this
  simp only[lagG]
  rw[K_z0 hnd hj ps (i+1) _ h']
  have inj:∀ a b y,all[a]? =some y→all[b]? =some y→a=b:=fun a b y ha hb=>by
   exact K_10k hnd ha hb
  by_cases c:i=j
  ·subst c
   have hx:p.1=x:=Option.some.inj (hp.symm.trans hj)
   rw[dif_neg (by omega),dif_pos (Nat.le_refl _),Nat.sub_self]
   have hw:wgt x p.1 i 0 all 1=1:=by
    rw[hx]
    exact K_lj x i all 0 1 fun t o ht hne e=>hne (by rw[Nat.zero_add];subst e;exact inj t i _ ht hj)
   simp only[List.getElem?_cons_zero]
   rw[hw,F.one_mul,F.add_zero]
  ·have hw:wgt x p.1 i 0 all 1=0:=K_oa x p.1 i all 0 1 j hj (by omega)
   rw[hw,F.zero_mul,F.add_zero]
   by_cases c2:i≤j
   ·rw[dif_pos (by omega),dif_pos c2]
    obtain⟨d,hd⟩:∃ d,j - i=d+1:=⟨j - i - 1,by omega⟩
    rw[hd,show j - (i+1)=d by omega]
    simp
   ·rw[dif_neg (by omega),dif_neg c2]
theorem K_16y{ps:List (F×F)}(hnd:(ps.map (·.1)).Nodup){p:F×F}(hp:p∈ps):lag ps p.1=p.2:=by
 obtain⟨j,hj,e⟩:=List.getElem_of_mem hp
 have h1:ps[j]? =some p:=by rw[List.getElem?_eq_getElem hj,e]
 have h2:(ps.map (·.1))[j]? =some p.1:=by simp[h1]
 unfold lag
 rw[K_z0 hnd h2 ps 0 0 (fun t q hq=>by simp[hq]),F.zero_add,dif_pos (Nat.zero_le _),Nat.sub_zero,h1]
theorem K_zl{ps:List (F×F)}(hnd:(ps.map (·.1)).Nodup){f:F→F}(hf:IsPoly ps.length f)(h:∀ p∈ps,f p.1=p.2)(x:F):lag ps x=f x:=
 IsPoly.ext (K_12r ps) hf hnd (by simp) (fun r hr=>by
  obtain⟨p,hp,rfl⟩:=List.mem_map.1 hr
  rw[K_16y hnd hp,h p hp]) x
end Go.Gf

namespace Go.Gf
def horG(x:F):List F→F→F
 | [],v=>v
 | c :: l,v=>horG x l (v*x+c)
def hor(x:F)(l:List F):F:=horG x l 0
theorem K_u7(x:F):∀ (l:List F) (v:F),horG x l v=v*F.pow x l.length+hor x l
 | [],v=>by simp[horG,hor,F.pow_zero,F.mul_one,F.add_zero]
 | c :: l,v=>by
  show horG x l (v*x+c)=_+horG x l (0*x+c)
  rw[K_u7 x l,K_u7 x l (0*x+c),F.zero_mul,F.zero_add,List.length_cons,F.pow_succ,F.add_mul]
  simp only[F.mul_assoc,F.add_assoc,F.mul_comm x]
theorem K_p9(x:F):hor x []=0:=rfl
theorem K_1v(x c:F)(l:List F):hor x (c :: l)=c*F.pow x l.length+hor x l:=by
 show horG x l (0*x+c)=_
 rw[K_u7,F.zero_mul,F.zero_add]
theorem K_lo(x:F):∀ l m:List F,hor x (l ++ m)=hor x l*F.pow x m.length+hor x m
 | [],m=>by rw[List.nil_append,K_p9,F.zero_mul,F.zero_add]
 | c :: l,m=>by
  rw[List.cons_append,K_1v,K_lo x l m,K_1v,List.length_append,F.pow_add,F.add_mul,F.mul_assoc,F.add_assoc]
def xorR:List F→List F→List F
 | a :: l,b :: m=>(a+b) :: xorR l m
 | _,_=>[]
theorem xorR_length:∀ {l m:List F},l.length=m.length→(xorR l m).length=l.length
 | [],m,h=>by cases m <;> simp[xorR]at h ⊢
 | a :: l,[],h=>by simp at h
 | a :: l,b :: m,h=>by simp[xorR,xorR_length (l:=l) (m:=m) (by simpa using h)]
theorem K_r0(x:F):∀ {l m:List F},l.length=m.length→hor x (xorR l m)=hor x l+hor x m
 | [],m,h=>by
  cases m with
  | nil=>exact(F.add_zero _).symm
  | cons b m=>simp at h
 | a :: l,[],h=>by simp at h
 | a :: l,b :: m,h=>by
  have h':l.length=m.length:=by simpa using h
  show hor x ((a+b) :: xorR l m)=_
  rw[K_1v,K_1v,K_1v,K_r0 x h',xorR_length h',h',F.add_mul]
  simp only[F.add_assoc,F.add_comm,F.add_left_comm]
def supp:List F→List (F×F)
 | []=>[]
 | c :: l=>if c=0 then supp l else(c,F.pow F.three l.length) :: supp l
theorem K_bk(c:F)(l:List F):supp (c :: l)=if c=0 then supp l else(c,F.pow F.three l.length) :: supp l:=rfl
def sumP(j:Nat):List (F×F)→F
 | []=>0
 | p :: ps=>p.1*F.pow p.2 j+sumP j ps
theorem pow_comm'(a:F)(m n:Nat):F.pow (F.pow a m) n=F.pow (F.pow a n) m:=by rw[←F.pow_mul,←F.pow_mul,Nat.mul_comm]
theorem K_qq(j:Nat):∀ l:List F,hor (F.pow F.three j) l=sumP j (supp l)
 | []=>rfl
 | c :: l=>by
  rw[K_1v,K_qq j l]
  rw[K_bk]
  by_cases h:c=0
  ·rw[if_pos h,h,F.zero_mul,F.zero_add]
  ·rw[if_neg h,sumP,pow_comm']
theorem K_fq:∀ {l:List F} {p:F×F},p∈supp l→∃ i,i<l.length∧p.2=F.pow F.three i
 | [],_,h=>by simp[supp]at h
 | c :: l,p,h=>by
  unfold supp at h
  by_cases hc:c=0
  ·rw[if_pos hc]at h
   obtain⟨i,hi,e⟩:=K_fq h
   exact⟨i,by simp;omega,e⟩
  ·rw[if_neg hc]at h
   rcases List.mem_cons.1 h with e | e
   ·exact⟨l.length,by simp,by rw[e]⟩
   ·obtain⟨i,hi,e⟩:=K_fq e
    exact⟨i,by simp;omega,e⟩
theorem K_fk:∀ {l:List F},l.length≤255→((supp l).map (·.2)).Nodup
 | [],_=>by simp[supp]
 | c :: l,h=>by
  have h':l.length≤255:=by simp at h;omega
  unfold supp
  by_cases hc:c=0
  ·rw[if_pos hc];exact K_fk h'
  ·rw[if_neg hc,List.map_cons,List.nodup_cons]
   refine⟨fun hm=>?_,K_fk h'⟩
   obtain⟨p,hp,e⟩:=List.mem_map.1 hm
   obtain⟨i,hi,e2⟩:=K_fq hp
   have:i=l.length:=K_lz (by simp at h;omega) (by simp at h;omega) (e2.symm.trans e)
   omega
def shiftP(x0:F)(ps:List (F×F)):List (F×F):=ps.map fun p=>(p.1*(p.2+x0),p.2)
theorem K_sj(x0:F)(j:Nat):∀ qs:List (F×F),sumP j (shiftP x0 qs)=sumP (j+1) qs+x0*sumP j qs
 | []=>by simp[shiftP,sumP,F.mul_zero,F.add_zero]
 | q :: qs=>by
  have ih:=K_sj x0 j qs
  show q.1*(q.2+x0)*F.pow q.2 j+sumP j (shiftP x0 qs)=(q.1*F.pow q.2 (j+1)+sumP (j+1) qs)+x0*(q.1*F.pow q.2 j+sumP j qs)
  rw[ih,F.pow_succ]
  obtain⟨A,hA⟩:∃ A,F.pow q.2 j=A:=⟨_,rfl⟩
  obtain⟨B,hB⟩:∃ B,sumP (j+1) qs=B:=⟨_,rfl⟩
  obtain⟨C,hC⟩:∃ C,sumP j qs=C:=⟨_,rfl⟩
  rw[hA,hB,hC]
  simp only[F.mul_add,F.add_mul,F.add_assoc,F.add_comm,F.add_left_comm,F.mul_assoc,F.mul_comm,F.mul_left_comm]
theorem K_v9(x0:F)(ps:List (F×F)):(shiftP x0 ps).map (·.2)=ps.map (·.2):=by
 simp[shiftP,List.map_map,Function.comp_def]
theorem K_sv:∀ {qs:List (F×F)},(∀ p∈qs,p.1=0)→sumP 0 qs=0
 | [],_=>rfl
 | q :: qs,h=>by rw[sumP,h q (by simp),F.zero_mul,F.zero_add];exact K_sv fun p hp=>h p (by simp[hp])
theorem vdm(m:Nat):∀ (ps:List (F×F)),(ps.map (·.2)).Nodup→ps.length≤m→(∀ j,j<m→sumP j ps=0)→∀ p∈ps,p.1=0:=by
 induction m with
 | zero=>
  intro ps _ hl _ p hp
  cases ps with
  | nil=>cases hp
  | cons q ps=>simp at hl
 | succ m ih=>
  intro ps hn hl hs
  cases ps with
  | nil=>intro p hp;cases hp
  | cons q ps=>
   have hn':q.2 ∉ ps.map (·.2)∧(ps.map (·.2)).Nodup:=List.nodup_cons.1 hn
   have h1:∀ j,j<m→sumP j (shiftP q.2 ps)=0:=fun j hj=>by
    have e:=K_sj q.2 j (q :: ps)
    have e2:sumP j (shiftP q.2 (q :: ps))=q.1*(q.2+q.2)*F.pow q.2 j+sumP j (shiftP q.2 ps):=rfl
    rw[e2,F.add_self,F.mul_zero,F.zero_mul,F.zero_add,hs (j+1) (by omega),hs j (by omega),F.mul_zero,F.add_zero]at e
    exact e
   have h2:=ih (shiftP q.2 ps) (by rw[K_v9];exact hn'.2) (by simp[shiftP]at hl ⊢;exact hl) h1
   have h3:∀ p∈ps,p.1=0:=fun p hp=>by
    have h4:(p.1*(p.2+q.2),p.2)∈shiftP q.2 ps:=List.mem_map.2 ⟨p,hp,rfl⟩
    have h5:=h2 _ h4
    have hne:p.2+q.2≠0:=F.add_ne_zero fun e=>hn'.1 (e ▸ List.mem_map.2 ⟨p,hp,rfl⟩)
    exact(F.mul_eq_zero h5).resolve_right hne
   have h5:=hs 0 (by omega)
   rw[sumP,K_sv h3,F.add_zero,F.pow_zero,F.mul_one]at h5
   intro p hp
   rcases List.mem_cons.1 hp with e | e
   ·rw[e];exact h5
   ·exact h3 p e
theorem K_pa:∀ {l:List F} {p:F×F},p∈supp l→p.1≠0
 | [],_,h=>by simp[supp]at h
 | c :: l,p,h=>by
  unfold supp at h
  by_cases hc:c=0
  ·rw[if_pos hc]at h;exact K_pa h
  ·rw[if_neg hc]at h
   rcases List.mem_cons.1 h with e | e
   ·rw[e];exact hc
   ·exact K_pa e
theorem K_wp:∀ {l:List F},supp l=[]→∀ c∈l,c=0
 | [],_=>by simp
 | c :: l,h=>by
  unfold supp at h
  by_cases hc:c=0
  ·rw[if_pos hc]at h
   intro d hd
   rcases List.mem_cons.1 hd with e | e
   ·rw[e];exact hc
   ·exact K_wp h d e
  ·rw[if_neg hc]at h;simp at h
def Right(l:List F):Prop:=∀ j,j<4→hor (F.pow F.three j) l=0
instance (l:List F):Decidable (Right l):=inferInstanceAs (Decidable (∀ j,j<4→_))
def far(l m:List F):Nat:=(supp (xorR l m)).length
theorem K_uy{l m:List F}(h:l.length=m.length)(hl:l.length≤255)(h1:Right l)(h2:Right m)(hf:far l m≤4):l=m:=by
 have hx:=xorR_length h
 have hz:supp (xorR l m)=[]:=by
  have:=vdm 4 (supp (xorR l m)) (K_fk (by omega)) hf fun j hj=>by rw[←K_qq,K_r0 _ h,h1 j hj,h2 j hj,F.add_zero]
  cases hs:supp (xorR l m) with
  | nil=>rfl
  | cons p ps=>exact absurd (this p (by rw[hs];simp)) (K_pa (l:=xorR l m) (by rw[hs];simp))
 have hall:=K_wp hz
 clear h1 h2 hf hz hl hx
 induction l generalizing m with
 | nil=>cases m with
  | nil=>rfl
  | cons b m=>simp at h
 | cons a l ih=>
  cases m with
  | nil=>simp at h
  | cons b m=>
   rw[F.eq_of_add (hall (a+b) (by simp[xorR])),ih (by simpa using h) fun c hc=>hall c (by simp[xorR,hc])]
theorem K_12p:∀ l m:List F,far l m=far m l:=by
 intro l m
 have:xorR l m=xorR m l:=by
  induction l generalizing m with
  | nil=>cases m <;> rfl
  | cons a l ih=>cases m with
   | nil=>rfl
   | cons b m=>simp only[xorR];rw[F.add_comm,ih m]
 unfold far;rw[this]
theorem K_p8:∀ l m k:List F,l.length=m.length→m.length=k.length→far l k≤far l m+far m k
 | [],[],[],_,_=>by simp[far,xorR,supp]
 | a :: l,b :: m,c :: k,h,h'=>by
  have ih:=K_p8 l m k (by simpa using h) (by simpa using h')
  unfold far at ih ⊢
  simp only[xorR,supp]
  by_cases e1:a+b=0
  ·have:=F.eq_of_add e1;subst this
   rw[if_pos (F.add_self a)]
   by_cases e2:a+c=0
   ·rw[if_pos e2,if_pos e2];exact ih
   ·rw[if_neg e2,if_neg e2];simp only[List.length_cons];omega
  ·rw[if_neg e1]
   by_cases e2:b+c=0
   ·rw[if_pos e2]
    split <;> simp only[List.length_cons] <;> omega
   ·rw[if_neg e2]
    split <;> simp only[List.length_cons] <;> omega
 | [],[],_ :: _,_,h'=>by simp at h'
 | [],_ :: _,_,h,_=>by simp at h
 | _ :: _,[],_,h,_=>by simp at h
 | _ :: _,_ :: _,[],_,h'=>by simp at h'
def Near(b c:List F):Prop:=c.length=b.length∧Right c∧far b c≤2
theorem Near.unique{b c c':List F}(hl:b.length≤255)(h:Near b c)(h':Near b c'):c=c':=by
 obtain⟨l1,r1,f1⟩:=h
 obtain⟨l2,r2,f2⟩:=h'
 refine K_uy (by omega) (by omega) r1 r2 ?_
 have:=K_p8 c b c' (by omega) (by omega)
 rw[K_12p c b]at this
 omega
end Go.Gf

namespace Go.Gf
def putX:List F→Nat→F→List F
 | [],_,_=>[]
 | c :: l,0,v=>(c+v) :: l
 | c :: l,i+1,v=>c :: putX l i v
theorem K_5y:∀ (l:List F) (i:Nat) (v:F),(putX l i v).length=l.length
 | [],_,_=>rfl
 | _ :: _,0,_=>rfl
 | _ :: l,i+1,v=>by simp[putX,K_5y l i v]
theorem K_x4(x v:F):∀ (l:List F) (i:Nat),i<l.length→hor x (putX l i v)=hor x l+v*F.pow x (l.length - 1 - i)
 | [],i,h=>by simp at h
 | c :: l,0,_=>by
  show hor x ((c+v) :: l)=_
  rw[K_1v,K_1v,F.add_mul,List.length_cons,Nat.add_sub_cancel,Nat.sub_zero]
  simp only[F.add_assoc,F.add_comm,F.add_left_comm]
 | c :: l,i+1,h=>by
  show hor x (c :: putX l i v)=_
  have e:(c :: l).length - 1 - (i+1)=l.length - 1 - i:=by simp;omega
  rw[K_1v,K_1v,K_x4 x v l i (by simpa using h),K_5y,e,F.add_assoc]
theorem K_dg:∀ l:List F,supp (xorR l l)=[]
 | []=>rfl
 | c :: l=>by
  show supp ((c+c) :: xorR l l)=[]
  rw[K_bk,if_pos (F.add_self c),K_dg l]
theorem K_b2(l:List F):far l l=0:=by unfold far;rw[K_dg];rfl
theorem K_gg:∀ (l:List F) (i:Nat) (v:F),i<l.length→far l (putX l i v)=if v=0 then 0 else 1
 | [],_,_,h=>by simp at h
 | c :: l,0,v,_=>by
  show (supp ((c+(c+v)) :: xorR l l)).length=_
  rw[F.add_cancel,K_bk,K_dg]
  split <;> rfl
 | c :: l,i+1,v,h=>by
  show (supp ((c+c) :: xorR l (putX l i v))).length=_
  rw[K_bk,if_pos (F.add_self c)]
  exact K_gg l i v (by simpa using h)
theorem K_qi:∀ {l m:List F},l.length=m.length→far l m=0→l=m
 | [],m,h,_=>by
  cases m with
  | nil=>rfl
  | cons b m=>simp at h
 | a :: l,[],h,_=>by simp at h
 | a :: l,b :: m,h,hf=>by
  have hf:(supp ((a+b) :: xorR l m)).length=0:=hf
  rw[K_bk]at hf
  by_cases c:a+b=0
  ·rw[if_pos c]at hf
   rw[F.eq_of_add c,K_qi (by simpa using h) hf]
  ·rw[if_neg c]at hf;simp at hf
def tj(j:Nat):F:=F.pow F.three j
def sj(b:List F)(j:Nat):F:=hor (tj j) b
theorem K_6r{b:List F}{i:Nat}(h:i<b.length)(v:F)(j:Nat):sj (putX b i v) j=sj b j+v*F.pow (tj (b.length - 1 - i)) j:=by
 unfold sj tj
 rw[K_x4 _ v b i h,pow_comm']
theorem K_ul(b:List F):Right b↔sj b 0=0∧sj b 1=0∧sj b 2=0∧sj b 3=0:=by
 constructor
 ·intro h;exact⟨h 0 (by decide),h 1 (by decide),h 2 (by decide),h 3 (by decide)⟩
 ·rintro⟨h0,h1,h2,h3⟩ j hj
  match j,hj with
  | 0,_=>exact h0
  | 1,_=>exact h1
  | 2,_=>exact h2
  | 3,_=>exact h3
theorem K_14l{b c:List F}(hl:c.length=b.length)(h:Right c)(j:Nat)(hj:j<4):sj b j=sumP j (supp (xorR b c)):=by
 have h1:=K_r0 (tj j) (l:=b) (m:=c) hl.symm
 have h2:hor (tj j) c=0:=h j hj
 rw[h2,F.add_zero]at h1
 unfold sj
 rw[←h1]
 exact K_qq j _
theorem K_zm{b c:List F}(hb:b.length≤255)(h:Near b c):
  (c=b∧far b c=0∧Right b)∨
  (∃ i v,i<b.length∧v≠0∧far b c=1∧∀ j,j<4→sj b j=v*F.pow (tj (b.length - 1 - i)) j)∨
  (∃ i k v w,i<k∧k<b.length∧v≠0∧w≠0∧far b c=2∧tj (b.length - 1 - i)≠tj (b.length - 1 - k)∧∀ j,j<4→sj b j=v*F.pow (tj (b.length - 1 - i)) j+w*F.pow (tj (b.length - 1 - k)) j):=by
 obtain⟨hl,hr,hf⟩:=h
 have hs:=fun j hj=>K_14l hl hr j hj
 have hxl:(xorR b c).length=b.length:=xorR_length hl.symm
 have hnd:=K_fk (l:=xorR b c) (by omega)
 have place:∀ p∈supp (xorR b c),∃ i,i<b.length∧p.2=tj (b.length - 1 - i):=fun p hp=>by
  obtain⟨i,hi,e⟩:=K_fq hp
  exact⟨b.length - 1 - i,by omega,by rw[e];unfold tj;congr 1;omega⟩
 have hfar:far b c=(supp (xorR b c)).length:=rfl
 have hnz:=fun p hp=>K_pa (l:=xorR b c) (p:=p) hp
 obtain⟨S,hS⟩:∃ S,supp (xorR b c)=S:=⟨_,rfl⟩
 rw[hS]at hs hnd place hfar hnz
 match S,hs,hnd,place,hfar,hnz with
 | [],_,_,_,hfar,_=>
  have:b=c:=K_qi hl.symm hfar
  subst this
  exact .inl ⟨rfl,hfar,hr⟩
 | [p],hs,_,place,hfar,hnz=>
  obtain⟨i,hi,e⟩:=place p (by simp)
  refine .inr (.inl ⟨i,p.1,hi,hnz p (by simp),hfar,fun j hj=>?_⟩)
  rw[hs j hj,←e]
  exact F.add_zero _
 | [p,q],hs,hnd,place,hfar,hnz=>
  obtain⟨i,hi,e⟩:=place p (by simp)
  obtain⟨k,hk,e'⟩:=place q (by simp)
  have hne:p.2≠q.2:=by simp at hnd;exact hnd
  have hsum:∀ j,j<4→sj b j=p.1*F.pow p.2 j+q.1*F.pow q.2 j:=fun j hj=>by
   rw[hs j hj]
   show p.1*F.pow p.2 j+(q.1*F.pow q.2 j+0)=_
   rw[F.add_zero]
  have hik:i≠k:=fun e3=>hne (by rw[e,e',e3])
  refine .inr (.inr ?_)
  rcases Nat.lt_or_ge i k with c1 | c1
  ·exact⟨i,k,p.1,q.1,c1,hk,hnz p (by simp),hnz q (by simp),hfar,by rw[←e,←e'];exact hne,fun j hj=>by rw[hsum j hj,←e,←e']⟩
  ·exact⟨k,i,q.1,p.1,by omega,hi,hnz q (by simp),hnz p (by simp),hfar,by rw[←e,←e'];exact fun e3=>hne e3.symm,fun j hj=>by rw[hsum j hj,←e,←e',F.add_comm]⟩
 | p :: q :: r :: S,_,_,_,hfar,_=>rw[hfar]at hf;simp at hf
theorem K_g2(x:F):F.pow x 2=x*x:=by show 1*x*x=x*x;rw[F.one_mul]
theorem K_fy(x:F):F.pow x 1=x:=by show 1*x=x;rw[F.one_mul]
theorem K_bv(x:F):F.pow x 3=x*(x*x):=by show 1*x*x*x=_;rw[F.one_mul,F.mul_assoc]
def atG(n:Nat)(x:F):Nat→Nat→Option Nat→Option Nat
 | 0,_,a=>a
 | d+1,k,a=>atG n x d (k+1) (if tj (n - 1 - k)=x then some k else a)
def atOf(n:Nat)(x:F):Option Nat:=atG n x n 0 none
theorem K_qw{n:Nat}(hn:n≤255){x:F}:∀ (d k:Nat) (a:Option Nat),k+d=n→(∀ i,a=some i→i<n∧tj (n - 1 - i)=x)→∀ i,atG n x d k a=some i→i<n∧tj (n - 1 - i)=x
 | 0,_,a,_,h,i,e=>h i e
 | d+1,k,a,hk,h,i,e=>by
  refine K_qw hn d (k+1) _ (by omega) (fun i hi=>?_) i e
  split at hi
  ·rename_i hx;obtain rfl:=Option.some.inj hi;exact⟨by omega,hx⟩
  ·exact h i hi
theorem K_sx{n:Nat}{x:F}:∀ (d k:Nat) (a:Option Nat),(a.isSome=true∨∃ i,k≤i∧i<k+d∧tj (n - 1 - i)=x)→(atG n x d k a).isSome=true
 | 0,_,a,h=>by
  rcases h with h | ⟨i,h1,h2,_⟩
  ·exact h
  ·omega
 | d+1,k,a,h=>by
  refine K_sx d (k+1) _ ?_
  by_cases c:tj (n - 1 - k)=x
  ·left;rw[if_pos c];rfl
  ·rw[if_neg c]
   rcases h with h | ⟨i,h1,h2,h3⟩
   ·exact .inl h
   ·have:i≠k:=fun e=>c (e ▸ h3)
    exact .inr ⟨i,by omega,by omega,h3⟩
theorem K_za{n:Nat}(hn:n≤255){i:Nat}(hi:i<n):atOf n (tj (n - 1 - i))=some i:=by
 have h1:=K_sx (n:=n) (x:=tj (n - 1 - i)) n 0 none (.inr ⟨i,by omega,by omega,rfl⟩)
 obtain⟨k,hk⟩:=Option.isSome_iff_exists.1 h1
 have h2:=K_qw hn n 0 none (by omega) (fun _ e=>by cases e) k hk
 have:=K_lz (by omega) (by omega) h2.2
 unfold atOf
 rw[hk]
 congr 1
 omega
theorem K_uv{n:Nat}(hn:n≤255){x:F}{i:Nat}(h:atOf n x=some i):i<n∧tj (n - 1 - i)=x:=K_qw hn n 0 none (by omega) (fun _ e=>by cases e) i h
def fix(out:List F)(x v:F):Option (List F):=(atOf out.length x).map fun k=>putX out k v
def delta(b:List F):F:=sj b 0*sj b 2+sj b 1*sj b 1
def one(b:List F):F:=(sj b 0*sj b 3+sj b 1*sj b 2)*(delta b).inv
def two(b:List F):F:=(sj b 1*sj b 3+sj b 2*sj b 2)*(delta b).inv
def rootsG(o t:F):Nat→Nat→List F
 | 0,_=>[]
 | d+1,i=>if tj i*tj i+o*tj i+t=0 then tj i :: rootsG o t d (i+1) else rootsG o t d (i+1)
def roots(b:List F):List F:=rootsG (one b) (two b) b.length 0
def vOf(s0 s1 x y:F):F:=(s1+s0*y)*(x+y).inv
def repP(b:List F):Option (List F×Nat):=
 if Right b then some (b,0)
 else if delta b=0 then
  if sj b 0=0∨sj b 1=0 then none
  else(fix b (sj b 1*(sj b 0).inv) (sj b 0)).bind fun o=>if Right o then some (o,1) else none
 else match roots b with
  | [x,y]=>(fix b x (vOf (sj b 0) (sj b 1) x y)).bind fun o=>(fix o y (vOf (sj b 0) (sj b 1) y x)).bind fun o2=>if Right o2 then some (o2,2) else none
  | _=>none
theorem K_8a{o o2:List F}{x v:F}(h:fix o x v=some o2):o2.length=o.length:=by
 unfold fix at h
 cases ha:atOf o.length x with
 | none=>rw[ha]at h;cases h
 | some k=>rw[ha]at h;obtain rfl:=Option.some.inj h;exact K_5y _ _ _
theorem K_u3{o o2:List F}(hn:o.length≤255){x v:F}(h:fix o x v=some o2):far o o2≤1:=by
 unfold fix at h
 cases ha:atOf o.length x with
 | none=>rw[ha]at h;cases h
 | some k=>
  rw[ha]at h;obtain rfl:=Option.some.inj h
  rw[K_gg _ _ _ (K_uv hn ha).1]
  split <;> omega
theorem K_s0{o:List F}(hn:o.length≤255){i:Nat}(hi:i<o.length)(v:F):fix o (tj (o.length - 1 - i)) v=some (putX o i v):=by
 unfold fix
 rw[K_za hn hi]
 rfl
theorem K_t3{o t X Y:F}(h:∀ x:F,x*x+o*x+t=0↔x=X∨x=Y){a b:Nat}(hab:a<b):∀ (d i:Nat),b<255→i+d≤255→(tj a=X∧tj b=Y∨tj a=Y∧tj b=X)→
  rootsG o t d i=(if i≤a∧a<i+d then [tj a] else []) ++ (if i≤b∧b<i+d then [tj b] else [])
 | 0,i,_,_,_=>by rw[if_neg (by omega),if_neg (by omega)];rfl
 | d+1,i,hb,hd,hp=>by
  have ih:=K_t3 h hab d (i+1) hb (by omega) hp
  have hroot:(tj i*tj i+o*tj i+t=0)↔i=a∨i=b:=by
   rw[h]
   constructor
   ·intro e
    have:tj i=tj a∨tj i=tj b:=by
     rcases hp with ⟨h1,h2⟩ | ⟨h1,h2⟩
     ·rw[h1,h2];exact e
     ·rw[h1,h2];exact e.symm
    rcases this with e | e
    ·exact .inl (K_lz (by omega) (by omega) e)
    ·exact .inr (K_lz (by omega) (by omega) e)
   ·rintro(rfl | rfl)
    ·rcases hp with ⟨h1,h2⟩ | ⟨h1,h2⟩
     ·exact .inl h1
     ·exact .inr h1
    ·rcases hp with ⟨h1,h2⟩ | ⟨h1,h2⟩
     ·exact .inr h2
     ·exact .inl h2
  simp only[rootsG]
  by_cases c1:i=a
  ·subst c1
   have q1:¬(i+1≤i∧i<i+1+d):=by omega
   have q2:i≤i∧i<i+(d+1):=by omega
   have q3:(i+1≤b∧b<i+1+d)=(i≤b∧b<i+(d+1)):=propext (by omega)
   rw[if_pos (hroot.2 (.inl rfl)),ih,if_neg q1,if_pos q2,List.nil_append]
   simp only[q3]
   rfl
  ·by_cases c2:i=b
   ·subst c2
    have q1:¬(i+1≤a∧a<i+1+d):=by omega
    have q2:¬(i+1≤i∧i<i+1+d):=by omega
    have q3:¬(i≤a∧a<i+(d+1)):=by omega
    have q4:i≤i∧i<i+(d+1):=by omega
    rw[if_pos (hroot.2 (.inr rfl)),ih,if_neg q1,if_neg q2,if_neg q3,if_pos q4]
    rfl
   ·rw[if_neg (fun e=>(hroot.1 e).elim c1 c2),ih]
    have e1:(i+1≤a∧a<i+1+d)↔(i≤a∧a<i+(d+1)):=by omega
    have e2:(i+1≤b∧b<i+1+d)↔(i≤b∧b<i+(d+1)):=by omega
    simp only[e1,e2]
theorem K_os{b:List F}(hb:b.length≤255):(∀ c,Near b c→repP b=some (c,far b c))∧(∀ r,repP b=some r→Near b r.1):=by
 constructor
 ·intro c hc
  unfold repP
  rcases K_zm hb hc with ⟨rfl,hf,hr⟩ | ⟨i,v,hi,hv,hf,hs⟩ | ⟨i,k,v,w,hik,hk,hv,hw,hf,hxy,hs⟩
  ·rw[if_pos hr,hf]
  ·have hn:¬Right b:=fun hr=>by
    have:=Near.unique hb hc ⟨rfl,hr,by rw[K_b2];omega⟩
    rw[this,K_b2]at hf;omega
   rw[if_neg hn]
   have e0:=hs 0 (by decide);have e1:=hs 1 (by decide);have e2:=hs 2 (by decide);have e3:=hs 3 (by decide)
   have hxz:tj (b.length - 1 - i)≠0:=K_yy _
   rw[F.pow_zero,F.mul_one]at e0
   rw[K_fy]at e1;rw[K_g2]at e2;rw[K_bv]at e3
   have hd:delta b=0:=by
    unfold delta
    rw[e0,e1,e2]
    simp only[F.mul_add,F.add_mul,F.add_assoc,F.add_comm,F.add_left_comm,F.mul_assoc,F.mul_comm,F.mul_left_comm,F.add_cancel,F.add_self,F.add_zero,F.zero_add]
   have hz:¬(sj b 0=0∨sj b 1=0):=by
    rintro(h | h)
    ·exact hv (e0 ▸ h)
    ·rw[e1]at h;exact F.mul_ne_zero hv hxz h
   have hx:sj b 1*(sj b 0).inv=tj (b.length - 1 - i):=by
    rw[e0,e1,F.mul_comm v,F.mul_assoc,F.mul_inv hv,F.mul_one]
   rw[if_pos hd,if_neg hz,hx,K_s0 hb hi,Option.bind_some]
   have hr:Right (putX b i (sj b 0)):=by
    rw[K_ul,K_6r hi,K_6r hi,K_6r hi,K_6r hi,F.pow_zero,K_fy,K_g2,K_bv,e0,e1,e2,e3,F.mul_one]
    exact⟨F.add_self _,F.add_self _,F.add_self _,F.add_self _⟩
   rw[if_pos hr]
   have hfp:=K_gg b i (sj b 0) hi
   rw[if_neg (e0 ▸ hv)]at hfp
   rw[Near.unique hb hc ⟨K_5y _ _ _,hr,by omega⟩,hfp]
  ·have hn:¬Right b:=fun hr=>by
    have:=Near.unique hb hc ⟨rfl,hr,by rw[K_b2];omega⟩
    rw[this,K_b2]at hf;omega
   rw[if_neg hn]
   have e0:=hs 0 (by decide);have e1:=hs 1 (by decide);have e2:=hs 2 (by decide);have e3:=hs 3 (by decide)
   have hi:i<b.length:=by omega
   have hfi:=K_s0 hb hi
   have hfk:=K_s0 hb hk
   obtain⟨x,hx⟩:∃ x,tj (b.length - 1 - i)=x:=⟨_,rfl⟩
   obtain⟨y,hy⟩:∃ y,tj (b.length - 1 - k)=y:=⟨_,rfl⟩
   rw[hx,hy]at e0 e1 e2 e3 hxy
   rw[F.pow_zero,F.pow_zero,F.mul_one,F.mul_one]at e0
   rw[K_fy,K_fy]at e1;rw[K_g2,K_g2]at e2;rw[K_bv,K_bv]at e3
   have hne:x+y≠0:=F.add_ne_zero hxy
   have hne':y+x≠0:=by rw[F.add_comm];exact hne
   have hdel:delta b=v*w*((x+y)*(x+y)):=by
    unfold delta
    rw[e0,e1,e2]
    simp only[F.mul_add,F.add_mul,F.add_assoc,F.add_comm,F.add_left_comm,F.mul_assoc,F.mul_comm,F.mul_left_comm,F.add_cancel,F.add_self,F.add_zero,F.zero_add]
   have hd:delta b≠0:=by rw[hdel];exact F.mul_ne_zero (F.mul_ne_zero hv hw) (F.mul_ne_zero hne hne)
   have hone:one b=x+y:=by
    unfold one
    have:sj b 0*sj b 3+sj b 1*sj b 2=(x+y)*delta b:=by
     rw[hdel,e0,e1,e2,e3]
     simp only[F.mul_add,F.add_mul,F.add_assoc,F.add_comm,F.add_left_comm,F.mul_assoc,F.mul_comm,F.mul_left_comm,F.add_cancel,F.add_self,F.add_zero,F.zero_add]
    rw[this,F.mul_assoc,F.mul_inv hd,F.mul_one]
   have htwo:two b=x*y:=by
    unfold two
    have:sj b 1*sj b 3+sj b 2*sj b 2=(x*y)*delta b:=by
     rw[hdel,e1,e2,e3]
     simp only[F.mul_add,F.add_mul,F.add_assoc,F.add_comm,F.add_left_comm,F.mul_assoc,F.mul_comm,F.mul_left_comm,F.add_cancel,F.add_self,F.add_zero,F.zero_add]
    rw[this,F.mul_assoc,F.mul_inv hd,F.mul_one]
   rw[if_neg hd]
   have hroots:roots b=[y,x]:=by
    unfold roots
    have hq:∀ z:F,z*z+one b*z+two b=0↔z=y∨z=x:=by
     intro z
     have:z*z+one b*z+two b=(z+x)*(z+y):=by
      rw[hone,htwo]
      simp only[F.mul_add,F.add_mul,F.add_assoc,F.add_comm,F.add_left_comm,F.mul_assoc,F.mul_comm,F.mul_left_comm,F.add_cancel,F.add_self,F.add_zero,F.zero_add]
     rw[this]
     constructor
     ·intro h
      rcases F.mul_eq_zero h with h | h
      ·exact .inr (F.eq_of_add h)
      ·exact .inl (F.eq_of_add h)
     ·rintro(rfl | rfl)
      ·rw[F.add_self,F.mul_zero]
      ·rw[F.add_self,F.zero_mul]
    have:=K_t3 hq (a:=b.length - 1 - k) (b:=b.length - 1 - i) (by omega) b.length 0 (by omega) (by omega) (.inl ⟨hy,hx⟩)
    rw[this,if_pos (by omega),if_pos (by omega),hx,hy]
    rfl
   rw[hroots]
   simp only
   have hw':vOf (sj b 0) (sj b 1) y x=w:=by
    unfold vOf
    have:sj b 1+sj b 0*x=w*(y+x):=by
     rw[e0,e1]
     simp only[F.mul_add,F.add_mul,F.add_assoc,F.add_comm,F.add_left_comm,F.mul_assoc,F.mul_comm,F.mul_left_comm,F.add_cancel,F.add_self,F.add_zero,F.zero_add]
    rw[this,F.mul_assoc,F.mul_inv hne',F.mul_one]
   have hv':vOf (sj b 0) (sj b 1) x y=v:=by
    unfold vOf
    have:sj b 1+sj b 0*y=v*(x+y):=by
     rw[e0,e1]
     simp only[F.mul_add,F.add_mul,F.add_assoc,F.add_comm,F.add_left_comm,F.mul_assoc,F.mul_comm,F.mul_left_comm,F.add_cancel,F.add_self,F.add_zero,F.zero_add]
    rw[this,F.mul_assoc,F.mul_inv hne,F.mul_one]
   rw[hw',hv',←hy,hfk w,Option.bind_some]
   have hl2:=K_5y b k w
   have hfi2:=K_s0 (o:=putX b k w) (by omega) (i:=i) (by omega) v
   rw[hl2,hx]at hfi2
   rw[hfi2,Option.bind_some]
   have hr:Right (putX (putX b k w) i v):=by
    have hi':i<(putX b k w).length:=by omega
    rw[K_ul,K_6r hi',K_6r hi',K_6r hi',K_6r hi',K_6r hk,K_6r hk,K_6r hk,K_6r hk,hl2,hx,hy,F.pow_zero,F.pow_zero,K_fy,K_fy,K_g2,K_g2,K_bv,K_bv,e0,e1,e2,e3]
    refine⟨?_,?_,?_,?_⟩ <;> simp only[F.mul_one,F.add_assoc,F.add_comm,F.add_left_comm,F.add_cancel,F.add_self,F.add_zero]
   rw[if_pos hr]
   have t:=K_p8 b (putX b k w) (putX (putX b k w) i v) hl2.symm (K_5y _ _ _).symm
   have f1:=K_gg b k w hk
   have f2:=K_gg (putX b k w) i v (by omega)
   rw[if_neg hw]at f1
   rw[if_neg hv]at f2
   have heq:=Near.unique hb hc ⟨by rw[K_5y,K_5y],hr,by omega⟩
   rw[←heq,hf]
 ·intro r h
  unfold repP at h
  split at h
  ·rename_i hr
   obtain rfl:=Option.some.inj h
   exact⟨rfl,hr,by rw[K_b2];omega⟩
  ·split at h
   ·split at h
    ·cases h
    ·obtain⟨o,ho,h⟩:=Option.bind_eq_some_iff.1 h
     split at h
     ·rename_i hr
      obtain rfl:=Option.some.inj h
      exact⟨K_8a ho,hr,Nat.le_trans (K_u3 hb ho) (by decide)⟩
     ·cases h
   ·split at h
    ·obtain⟨o,ho,h⟩:=Option.bind_eq_some_iff.1 h
     obtain⟨o2,ho2,h⟩:=Option.bind_eq_some_iff.1 h
     split at h
     ·rename_i hr
      obtain rfl:=Option.some.inj h
      have l1:=K_8a ho
      have l2:=K_8a ho2
      refine⟨l2.trans l1,hr,?_⟩
      have t:=K_p8 b o o2 (by omega) (by omega)
      have:=K_u3 hb ho
      have:=K_u3 (by omega) ho2
      show far b o2≤2
      omega
     ·cases h
    ·cases h
end Go.Gf

namespace Go.Gf
def E(rows:List (List F))(i t:Nat):F:=(rows.getD i []).getD t 0
theorem getD_set_ne{rows:List (List F)}{c i:Nat}(r:List F)(h:c≠i):(rows.set c r).getD i []=rows.getD i []:=by
 rw[List.getD_eq_getElem?_getD,List.getElem?_set_ne h,List.getD_eq_getElem?_getD]
theorem getD_xorR:∀ {l m:List F} (t:Nat),l.length=m.length→(xorR l m).getD t 0=l.getD t 0+m.getD t 0
 | [],m,t,h=>by
  cases m with
  | nil=>simp[xorR,F.add_zero]
  | cons b m=>simp at h
 | a :: l,[],t,h=>by simp at h
 | a :: l,b :: m,0,h=>rfl
 | a :: l,b :: m,t+1,h=>by
  have:=getD_xorR (l:=l) (m:=m) t (by simpa using h)
  simpa[xorR] using this
theorem getD_map0(f:F→F)(hf:f 0=0):∀ (l:List F) (t:Nat),(l.map f).getD t 0=f (l.getD t 0)
 | [],t=>by simp[hf]
 | a :: l,0=>rfl
 | a :: l,t+1=>by simpa using getD_map0 f hf l t
structure Shape(m n c:Nat) (rows:List (List F)):Prop where
 len:rows.length=m
 row:∀ i,i<m→(rows.getD i []).length=n+1
 unit:∀ i t,i<m→t<c→E rows i t=if i=t then 1 else 0
end Go.Gf

namespace Go.Gf
def timesX(g:List F)(a:F):List F:=xorR (g ++ [0]) (0 :: g.map (· *a))
def genL:List F:=timesX (timesX (timesX (timesX [1] (tj 0)) (tj 1)) (tj 2)) (tj 3)
def genT:List F:=genL.tail
theorem K_u8:genL=1 :: genT:=by decide+kernel
theorem K_ls:genT.length=4:=by decide+kernel
theorem K_10u:∀ j,j<4→hor (tj j) genL=0:=by decide+kernel
def addHead:List F→List F→List F
 | a :: m,b :: l=>(a+b) :: addHead m l
 | _,l=>l
theorem K_7c:∀ m l:List F,(addHead m l).length=l.length
 | [],l=>by cases l <;> rfl
 | _ :: _,[]=>rfl
 | a :: m,b :: l=>by simp[addHead,K_7c m l]
theorem K_qk(x:F):∀ (m l:List F),m.length≤l.length→hor x (addHead m l)=hor x l+hor x m*F.pow x (l.length - m.length)
 | [],l,_=>by
  have:addHead [] l=l:=by cases l <;> rfl
  rw[this,K_p9,F.zero_mul,F.add_zero]
 | a :: m,[],h=>by simp at h
 | a :: m,b :: l,h=>by
  have h':m.length≤l.length:=by simpa using h
  show hor x ((a+b) :: addHead m l)=_
  rw[K_1v,K_1v,K_1v,K_qk x m l h',K_7c,F.add_mul,F.add_mul,F.mul_assoc]
  have e:F.pow x m.length*F.pow x ((b :: l).length - (a :: m).length)=F.pow x l.length:=by
   rw[←F.pow_add];congr 1;simp only[List.length_cons];omega
  have e2:(b :: l).length - (a :: m).length=l.length - m.length:=by simp
  rw[e,e2]
  simp only[F.add_assoc,F.add_comm,F.add_left_comm]
def divR:Nat→List F→List F
 | n+1,c :: l=>divR n (addHead (genT.map (c* ·)) l)
 | _,l=>l
theorem K_qe:∀ (n:Nat) (l:List F),n≤l.length→(divR n l).length=l.length - n
 | 0,l,_=>by cases l <;> rfl
 | n+1,[],h=>by simp at h
 | n+1,c :: l,h=>by
  show (divR n (addHead _ l)).length=_
  rw[K_qe n _ (by rw[K_7c];simpa using h),K_7c]
  simp
theorem K_yl(x c:F):∀ l:List F,hor x (l.map (c* ·))=c*hor x l
 | []=>by rw[List.map_nil,K_p9,F.mul_zero]
 | a :: l=>by rw[List.map_cons,K_1v,K_1v,K_yl x c l,F.mul_add,List.length_map,F.mul_assoc]
theorem K_xe{j:Nat}(hj:j<4):∀ (n:Nat) (l:List F),n+4≤l.length→hor (tj j) (divR n l)=hor (tj j) l
 | 0,l,_=>by cases l <;> rfl
 | n+1,[],h=>by simp at h
 | n+1,c :: l,h=>by
  have hl:n+4≤l.length:=by simp at h;omega
  show hor (tj j) (divR n (addHead _ l))=_
  rw[K_xe hj n _ (by rw[K_7c];exact hl),K_qk _ _ _ (by rw[List.length_map,K_ls];omega),K_1v,K_yl,List.length_map,K_ls]
  have hg:=K_10u j hj
  rw[K_u8,K_1v,K_ls,F.one_mul]at hg
  rw[←F.eq_of_add hg,F.mul_assoc,←F.pow_add,show 4+(l.length - 4)=l.length by omega,F.add_comm]
def remP(b:List F):List F:=divR b.length (b ++ [0,0,0,0])
def codedP(b:List F):List F:=b ++ remP b
theorem K_ib(b:List F):(remP b).length=4:=by
 unfold remP
 rw[K_qe _ _ (by simp)]
 simp
theorem K_zw(x:F):hor x [0,0,0,0]=0:=by
 simp only[K_1v,K_p9,F.zero_mul,F.add_zero]
theorem K_15h(b:List F){j:Nat}(hj:j<4):hor (tj j) (remP b)=hor (tj j) (b ++ [0,0,0,0]):=K_xe hj _ _ (by simp)
theorem K_vz(b:List F):Right (codedP b):=by
 intro j hj
 show hor (tj j) (codedP b)=0
 unfold codedP
 rw[K_lo,K_15h b hj,K_lo,K_zw,F.add_zero,K_ib]
 exact F.add_self _
theorem codedP_length(b:List F):(codedP b).length=b.length+4:=by unfold codedP;rw[List.length_append,K_ib]
end Go.Gf

namespace Go.Sh
open Go.Fw Go.Gf Go.RowKit Go.Proofs.Tryd
def bF(a:F):Int:=(a.n:Int)
def toF(x:Int):F:=⟨x.toNat % 256,Nat.mod_lt _ (by decide)⟩
theorem K_xd(a:F):toF (bF a)=a:=F.ext' (by show (Int.toNat (a.n:Int)) % 256=a.n;rw[J_tn,Nat.mod_eq_of_lt a.lt])
theorem K_w3{x:Int}(h:InK .u8 x):bF (toF x)=x:=by
 obtain⟨a,rfl,ha⟩:=h.nat
 have ha:a<256:=ha
 show ((Int.toNat (a:Int) % 256:Nat):Int)=a
 rw[J_tn,Nat.mod_eq_of_lt ha]
theorem K_xa{a b:F}(h:bF a=bF b):a=b:=by rw[←K_xd a,h,K_xd]
theorem bF_eq{a b:F}:bF a=bF b↔a=b:=⟨K_xa,fun h=>by rw[h]⟩
theorem bF_in(a:F):InK .u8 (bF a):=⟨Int.natCast_nonneg _,by show (a.n:Int)<2 ^ 8;have:=a.lt;omega⟩
theorem K_15i:bF 0=0:=rfl
theorem K_140:bF F.three=3:=rfl
theorem K_og(a:F):((bF a == 0)=true)=(a=0):=by rw[beq_iff_eq,←K_15i,bF_eq]
def fb(l:List F):List Value:=ints .u8 (l.map bF)
theorem K_0(l:List F):(fb l).length=l.length:=by unfold fb;rw[K_3,List.length_map]
theorem K_5v(l m:List F):fb (l ++ m)=fb l ++ fb m:=by unfold fb;rw[List.map_append,K_3i]
theorem K_g1(l:List F)(n:Nat):(fb l).take n=fb (l.take n):=by unfold fb;rw[K_9f,List.map_take]
theorem K_ym(l:List F)(n:Nat):(fb l).drop n=fb (l.drop n):=by simp[fb,ints,List.map_drop]
theorem K_113(l:List F)(i:Nat)(a:F):(fb l).set i (.int .u8 (bF a))=fb (l.set i a):=by simp[fb,ints,List.map_set]
theorem K_lq{xs:List Int}(h:∀ x∈xs,InK .u8 x):∃ l:List F,xs=l.map bF:=by
 refine⟨xs.map toF,?_⟩
 rw[List.map_map]
 conv=>lhs;rw[←List.map_id xs]
 exact List.map_congr_left fun x hx=>(K_w3 (h x hx)).symm
theorem K_zb{l m:List F}(h:l.map bF=m.map bF):l=m:=by
 have:=congrArg (List.map toF) h
 simpa[List.map_map,Function.comp_def,K_xd] using this
theorem K_12c{l m:List F}:l.map bF=m.map bF↔l=m:=⟨K_zb,fun h=>by rw[h]⟩
theorem addF(a b:F):bits .xor .u8 (bF a) (bF b)=bF (a+b):=xor8 a.lt b.lt
theorem tm{K:Nat}(hK:300≤K)(a b:F):K_d K (bF a) (bF b)=some (bF (a*b),()):=K_142 hK a.lt b.lt
theorem K_100{K:Nat}(hK:300≤K)(n:Nat)(hn:n≤255):∀ (d i m:Nat) (v:F),i+d=n→d<m→
  K_2f K m (bF v) (n:Int) (i:Int)=some (.norm (bF (v*F.pow F.three d),())):=by
 intro d
 induction d with
 | zero=>
  intro i m v hi hm
  obtain⟨m,rfl⟩:∃ q,m=q+1:=⟨m - 1,by omega⟩
  show K_5e K (K_2f K m) (bF v) (n:Int) (i:Int)=_
  unfold K_5e
  rw[if_neg (by simp only[decide_eq_true_eq];omega),F.pow_zero,F.mul_one]
 | succ d ih=>
  intro i m v hi hm
  obtain⟨m,rfl⟩:∃ q,m=q+1:=⟨m - 1,by omega⟩
  have e3:IntKind.i64.wrap ((i:Int)+1)=((i+1:Nat):Int):=by rw[w64 (by omega) (by omega)];rfl
  have et:=tm hK v F.three
  rw[K_140]at et
  show K_5e K (K_2f K m) (bF v) (n:Int) (i:Int)=_
  unfold K_5e
  rw[if_pos (decide_eq_true (show (i:Int)<(n:Int) by omega)),et,J_bs,e3,ih (i+1) m _ (by omega) (by omega),F.pow_succ,F.mul_assoc,F.mul_comm F.three]
theorem K_lt{K:Nat}(hK:300≤K)(n:Nat):K_3p K (n:Int)=some (bF (tj n),()):=by
 have h1:Int.tmod (n:Int) 255=((n % 255:Nat):Int):=rfl
 have hl:n % 255<255:=Nat.mod_lt _ (by decide)
 have h2:=K_100 hK (n % 255) (by omega) (n % 255) 0 K 1 (by omega) (by omega)
 rw[F.one_mul,K_132]at h2
 unfold K_3p
 rw[h1]
 have h2:K_2f K K 1 ((n % 255:Nat):Int) 0=_:=h2
 rw[h2]
 rfl
theorem K_wm{K:Nat}(hK:300≤K):∀ (d i m:Nat) (b v:F),i+d=7→d<m→
  K_1n K m (bF b) (bF v) (i:Int)=some (.norm (bF (invG d b v),())):=by
 intro d
 induction d with
 | zero=>
  intro i m b v hi hm
  obtain⟨m,rfl⟩:∃ q,m=q+1:=⟨m - 1,by omega⟩
  show K_40 K (K_1n K m) (bF b) (bF v) (i:Int)=_
  unfold K_40
  rw[if_neg (by simp only[decide_eq_true_eq];omega)];rfl
 | succ d ih=>
  intro i m b v hi hm
  obtain⟨m,rfl⟩:∃ q,m=q+1:=⟨m - 1,by omega⟩
  have e3:IntKind.i64.wrap ((i:Int)+1)=((i+1:Nat):Int):=by rw[w64 (by omega) (by omega)];rfl
  show K_40 K (K_1n K m) (bF b) (bF v) (i:Int)=_
  unfold K_40
  rw[if_pos (decide_eq_true (show (i:Int)<7 by omega)),tm hK,J_bs,tm hK,J_bs,e3,ih (i+1) m (b*b) (v*(b*b)) (by omega) (by omega)];rfl
theorem K_si{K:Nat}(hK:300≤K)(b:F):K_47 K (bF b)=some (bF b.inv,()):=by
 have h:=K_wm hK 7 0 K b 1 (by omega) (by omega)
 have h:K_1n K K (bF b) 1 0=_:=h
 unfold K_47
 rw[h];rfl
theorem K_p6{K:Nat}(hK:300≤K)(a b:F):K_4d K (bF a) (bF b)=some (bF (a*b.inv),()):=by
 unfold K_4d
 rw[K_si hK,J_bs,tm hK,J_bs]
end Go.Sh

namespace Go.Sh
open Go.Fw Go.Gf Go.RowKit Go.Proofs.Tryd
def sumsL(l:List F):List F:=[sj l 0,sj l 1,sj l 2,sj l 3]
theorem K_2b{w:World}{s:Sl}{l:List F}(h:Src w s (fb l)){i:Nat}(hi:i<l.length):∃ p,s.a=some p∧ldI .u8 (p.add i) w=some (bF l[i]):=by
 obtain⟨p,p1,p2⟩:=h.rds.ld
 have hne:l.map bF≠[]:=fun e=>by have:=congrArg List.length e;simp at this;rw[this]at hi;simp at hi
 refine⟨p,p1 hne,?_⟩
 have:=p2 i (by rw[List.length_map];exact hi)
 rw[this,List.getElem_map]
theorem K_3r{X:Nat→Prop}{w w':World}{s:Sl}{l:List F}(h:Src w s (fb l))(u:Upd X w w')(hn:∀ q,s.a=some q→l≠[]→¬X q.block):Src w' s (fb l):=
 ⟨h.len,h.cap,h.rd.imp id fun⟨p,hp,hr⟩=>⟨p,hp,hr.upd u fun hne=>hn p hp fun e=>hne (by rw[e];rfl)⟩,h.one⟩
theorem K_bu{w:World}{s:Sl}{l:List F}(hs:Src w s (fb l)):∀ q,s.a=some q→l≠[]→q.block<w.heap.size:=fun q hq hne=>by
 rcases hs.rd with ⟨a,_,_⟩ | ⟨p,a,h⟩
 ·rw[a]at hq;cases hq
 ·rw[a]at hq
  obtain rfl:=Option.some.inj hq
  exact h.lt fun e=>hne (by cases l with | nil=>rfl | cons _ _=>cases e)
theorem K_ha{e:TypeId}{w:World}{g:Nat}{S:List F}(h:Bk e w g (fb S)){j:Nat}(hj:j<S.length):ldI .u8 ⟨g,j,none⟩ w=some (bF S[j]):=by
 refine h.ldI ?_
 simp[fb,ints,hj]
theorem K_i0{K:Nat}(hK:300≤K){b:Sl}{l:List F}{g:Nat}{e:TypeId}{x:F}{a2:Addr}{a8:Int}{j:Nat}(hj:j<4)(hl:l.length<9223372036854775807)(hg:∀ q,b.a=some q→l≠[]→q.block≠g):
  ∀ (d i m:Nat) (w:World) (S:List F),i+d=l.length→d<m→S.length=4→Bk e w g (fb S)→Src w b (fb l)→
   ∃ w',K_1l K m b a2 ⟨g,0,none⟩ (j:Int) (bF x) a8 b ((l.length:Nat):Int) (i:Int) w=some ((),w')∧Bk e w' g (fb (S.set j (horG x (l.drop i) (S.getD j 0))))∧Upd (· =g) w w':=by
 intro d
 induction d with
 | zero=>
  intro i m w S hi hm hS hb hs
  obtain⟨m,rfl⟩:∃ q,m=q+1:=⟨m - 1,by omega⟩
  refine⟨w,?_,?_,Upd.refl _ _⟩
  ·show K_4w K (K_1l K m) b a2 ⟨g,0,none⟩ (j:Int) (bF x) a8 b ((l.length:Nat):Int) (i:Int) w=_
   unfold K_4w
   rw[if_neg (by simp only[decide_eq_true_eq];omega)]
  ·rw[List.drop_eq_nil_of_le (by omega)]
   have:S.set j (horG x [] (S.getD j 0))=S:=by
    show S.set j (S.getD j 0)=S
    rw[J_gd,J_ge (by omega)]
    exact List.set_getElem_self (by omega)
   rw[this];exact hb
 | succ d ih=>
  intro i m w S hi hm hS hb hs
  obtain⟨m,rfl⟩:∃ q,m=q+1:=⟨m - 1,by omega⟩
  have hbl:b.len=l.length:=by rw[hs.len,K_0]
  have hlne:l≠[]:=fun e=>by rw[e]at hi;simp at hi
  obtain⟨p,p1,p2⟩:=K_2b hs (i:=i) (by omega)
  have c1:(0:Int)≤(i:Int)∧(i:Int)<((b.len:Nat):Int):=by omega
  have c2:(0:Int)≤(j:Int)∧(j:Int)<((4:Nat):Int):=by omega
  have hc:=K_ha hb (j:=j) (by omega)
  have hgd:S[j]'(by omega)=S.getD j 0:=by rw[J_gd,J_ge (by omega)];rfl
  rw[hgd]at hc
  obtain⟨w1,s1,s2,s3⟩:=hb.stC (i:=j) (by rw[K_0];omega) (.int .u8 (bF (S.getD j 0*x+l[i]'(by omega))))
  rw[K_113]at s2
  have e3:IntKind.i64.wrap ((i:Int)+1)=((i+1:Nat):Int):=by rw[w64 (by omega) (by omega)];rfl
  obtain⟨w2,k1,k2,k3⟩:=ih (i+1) m w1 _ (by omega) (by omega) (by rw[List.length_set];exact hS) s2 (K_3r hs s3 fun q hq hne=>hg q hq hne)
  refine⟨w2,?_,?_,s3.trans' k3 fun _ _ e=>e⟩
  ·show K_4w K (K_1l K m) b a2 ⟨g,0,none⟩ (j:Int) (bF x) a8 b ((l.length:Nat):Int) (i:Int) w=_
   unfold K_4w
   rw[if_pos (decide_eq_true (show (i:Int)<((l.length:Nat):Int) by omega)),p1,J_bs,if_pos c1,J_tn,Nat.mul_one,p2,J_bs,if_pos c2,J_tn,Nat.mul_one,add_lit,Nat.zero_add,hc,J_bs,tm hK,J_bs,if_pos c2,addF,s1,J_bs,e3,k1]
  ·have e4:(S.set j (S.getD j 0*x+l[i]'(by omega))).getD j 0=S.getD j 0*x+l[i]'(by omega):=by
    rw[J_gd,List.getElem?_set_self (by omega)];rfl
   rw[e4,List.set_set]at k2
   rw[List.drop_eq_getElem_cons (show i<l.length by omega)]
   exact k2
theorem K_14(l:List F):∀ v∈fb l,v.oneCell'=true:=fun v hv=>by obtain⟨x,_,rfl⟩:=List.mem_map.1 hv;rfl
theorem K_uq{K:Nat}(hK:18446744073709551616≤K){w:World}{b:Sl}{l:List F}(hs:Src w b (fb l))(hl:l.length<9223372036854775807):
  ∃ w',K_2r K b w=some (((fb (sumsL l)).toArray,()),w')∧Upd none_ w w':=by
 have hbl:b.len=l.length:=by rw[hs.len,K_0]
 have hlt:=K_bu hs
 obtain⟨w1,a1,a2,a3,a4⟩:=K_g z170 170 w
 obtain⟨w2,b1,b2,b3,b4⟩:=K_g z170 170 w1
 have a2:Bk 170 w1 w.heap.size (fb [0,0,0,0]):=a2
 have b2:Bk 170 w2 w1.heap.size (fb [0,0,0,0]):=b2
 have hs2:=(hs.upd0 a3).upd0 b3
 have hg:∀ q,b.a=some q→l≠[]→q.block≠w1.heap.size:=fun q hq hne=>by have:=hlt q hq hne;omega
 obtain⟨w3,c1,c2,c3⟩:=K_i0 (K:=K) (by omega) (x:=tj 0) (a2:=⟨w.heap.size,0,none⟩) (a8:=((0:Nat):Int)) (j:=0) (by omega) hl hg l.length 0 K w2 [0,0,0,0] (by omega) (by omega) rfl b2 hs2
 have up:∀ {w w':World},Src w b (fb l)→Upd (· =w1.heap.size) w w'→Src w' b (fb l):=fun h u=>K_3r h u fun q hq hne=>hg q hq hne
 have hs3:=up hs2 c3
 obtain⟨w4,d1,d2,d3⟩:=K_i0 (K:=K) (by omega) (x:=tj 1) (a2:=⟨w.heap.size,0,none⟩) (a8:=((1:Nat):Int)) (j:=1) (by omega) hl hg l.length 0 K w3 _ (by omega) (by omega) (by rfl) c2 hs3
 have hs4:=up hs3 d3
 obtain⟨w5,e1,e2,e3⟩:=K_i0 (K:=K) (by omega) (x:=tj 2) (a2:=⟨w.heap.size,0,none⟩) (a8:=((2:Nat):Int)) (j:=2) (by omega) hl hg l.length 0 K w4 _ (by omega) (by omega) (by rfl) d2 hs4
 have hs5:=up hs4 e3
 obtain⟨w6,f1,f2,f3⟩:=K_i0 (K:=K) (by omega) (x:=tj 3) (a2:=⟨w.heap.size,0,none⟩) (a8:=((3:Nat):Int)) (j:=3) (by omega) hl hg l.length 0 K w5 _ (by omega) (by omega) (by rfl) e2 hs5
 have f2:Bk 170 w6 w1.heap.size (fb (sumsL l)):=f2
 have u26:=((c3.trans' d3 fun _ _ e=>e).trans' e3 fun _ _ e=>e).trans' f3 fun _ _ e=>e
 have a6:=(a2.upd0 b3).upd u26 (by omega)
 have g1:=f2.ldA (i:=0) (n:=4) (by rw[K_0];simp[sumsL])
 obtain⟨w7,h1,h2,h3⟩:=a6.stA (o:=0) (vs:=(fb (sumsL l)).toArray) (by simp[fb,ints,sumsL]) (fun v hv=>K_14 _ v hv)
 have h2:Bk 170 w7 w.heap.size (fb (sumsL l)):=h2
 have g2:=h2.ldA (i:=0) (n:=4) (by rw[K_0];simp[sumsL])
 have g1:ldA 4 ⟨w1.heap.size,0,none⟩ w6=some (fb (sumsL l)).toArray:=g1
 have g2:ldA 4 ⟨w.heap.size,0,none⟩ w7=some (fb (sumsL l)).toArray:=g2
 obtain⟨k,hk⟩:∃ k,K=k+5:=⟨K - 5,by omega⟩
 have step:∀ (m j:Nat) (v v':World),j<4→(K_1l K K b ⟨w.heap.size,0,none⟩ ⟨w1.heap.size,0,none⟩ (j:Int) (bF (tj j)) (j:Int) b ((l.length:Nat):Int) ((0:Nat):Int) v=some ((),v'))→K_p K (m+1) b ⟨w.heap.size,0,none⟩ ⟨w1.heap.size,0,none⟩ (j:Int) v=K_p K m b ⟨w.heap.size,0,none⟩ ⟨w1.heap.size,0,none⟩ ((j+1:Nat):Int) v':=by
  intro m j v v' hj h
  have h:K_1l K K b ⟨w.heap.size,0,none⟩ ⟨w1.heap.size,0,none⟩ (j:Int) (bF (tj j)) (j:Int) b ((l.length:Nat):Int) 0 v=some ((),v'):=h
  show K_4l K (K_p K m) b ⟨w.heap.size,0,none⟩ ⟨w1.heap.size,0,none⟩ (j:Int) v=_
  unfold K_4l
  rw[if_pos (decide_eq_true (show (j:Int)<4 by omega)),K_lt (by omega),J_bs]
  dsimp only
  rw[hbl,h,bnd_ok,w64 (by omega) (by omega)];rfl
 have hl0:K_p K K b ⟨w.heap.size,0,none⟩ ⟨w1.heap.size,0,none⟩ ((0:Nat):Int) w2=some ((),w6):=by
  have fin:∀ m v,K_p K (m+1) b ⟨w.heap.size,0,none⟩ ⟨w1.heap.size,0,none⟩ ((4:Nat):Int) v=some ((),v):=fun m v=>by
   show K_4l K (K_p K m) b ⟨w.heap.size,0,none⟩ ⟨w1.heap.size,0,none⟩ ((4:Nat):Int) v=_
   unfold K_4l
   rw[if_neg (by decide)]
  have gen:∀ n,n=k+5→K_p K n b ⟨w.heap.size,0,none⟩ ⟨w1.heap.size,0,none⟩ ((0:Nat):Int) w2=some ((),w6):=fun n hn=>by
   rw[hn,step (k+4) 0 _ _ (by omega) c1,step (k+3) 1 _ _ (by omega) d1,step (k+2) 2 _ _ (by omega) e1,step (k+1) 3 _ _ (by omega) f1,fin]
  exact gen K hk
 refine⟨w7,?_,((a3.and0 b3).trans' u26 fun j hj e=>by omega).trans' h3 fun j hj e=>by omega⟩
 unfold K_2r
 have hl0:K_p K K b ⟨w.heap.size,0,none⟩ ⟨w1.heap.size,0,none⟩ 0 w2=some ((),w6):=hl0
 rw[a1,bnd_ok,b1,bnd_ok,hl0,bnd_ok,g1,J_bs,if_pos (by simp[fb,ints,sumsL]),h1,J_bs,g2,J_bs]
end Go.Sh

namespace Go.Sh
open Go.Fw Go.RowKit Go.Proofs.Tryd
theorem sliceB:OneSlice prog 23 5 (.int .u8 0) 1:=⟨by kernel_rfl,⟨t5,by kernel_rfl,by kernel_rfl,by kernel_rfl,by kernel_rfl⟩,by decide,rfl,rfl⟩
theorem K_ty(K:Nat){a b:Sl}{xs ys:List Int}(hl:xs.length=ys.length)(hs:xs.length<9223372036854775807):
  ∀ (d i:Nat) (n:Nat) (w:World),i+d=xs.length→d<n→RdS .u8 w a xs→RdS .u8 w b ys→
   ∃ w',K_1q K n a b (i:Int) w=some (if xs.drop i=ys.drop i then .norm () else .ret (false,()),w')∧Upd none_ w w':=by
 intro d
 induction d with
 | zero=>
  intro i n w hi hn ha hb
  obtain⟨n,rfl⟩:∃ m,n=m+1:=⟨n - 1,by omega⟩
  refine⟨w,?_,Upd.refl _ w⟩
  show K_2l K (K_1q K n) a b (i:Int) w=_
  have e1:xs.drop i=[]:=List.drop_eq_nil_of_le (by omega)
  have e2:ys.drop i=[]:=List.drop_eq_nil_of_le (by omega)
  simp[K_2l,ha.len,show ¬i<xs.length by omega,e1,e2]
 | succ d ih=>
  intro i n w hi hn ha hb
  obtain⟨n,rfl⟩:∃ m,n=m+1:=⟨n - 1,by omega⟩
  show ∃ w',K_2l K (K_1q K n) a b (i:Int) w=_∧_
  obtain⟨p,hp,hpl⟩:=ha.drew.ld
  obtain⟨q,hq,hql⟩:=hb.drew.ld
  have hx:xs≠[]:=by rintro rfl;simp at hi
  have hy:ys≠[]:=fun e=>by rw[e]at hl;simp at hl;exact hx hl
  have hil:i<xs.length:=by omega
  have hil2:i<ys.length:=by omega
  have hw:IntKind.i64.wrap ((i:Int)+1)=((i+1:Nat):Int):=by rw[w64 (by omega) (by omega)];rfl
  have e1:xs.drop i=xs[i] :: xs.drop (i+1):=List.drop_eq_getElem_cons hil
  have e2:ys.drop i=ys[i] :: ys.drop (i+1):=List.drop_eq_getElem_cons hil2
  have l1:=hpl i hil
  have l2:=hql i hil2
  by_cases hne:xs[i]=ys[i]
  ·obtain⟨w',h1,h2⟩:=ih (i+1) n w.drew (by omega) (by omega) ha.drew hb.drew
   refine⟨w',?_,?_⟩
   ·simp only[K_2l,ha.len,hb.len,Int.ofNat_lt,hil,hil2,decide_true,if_true,hp hx,hq hy,J_bs,Int.natCast_nonneg,and_self,J_tn,Nat.mul_one,l1,l2,hne,bne_self_eq_false,Bool.false_eq_true,if_false,hw,h1,e1,e2,List.cons.injEq,true_and]
   ·exact(Upd.refl none_ w).drew.trans' h2 fun _ _ e=>e
  ·refine⟨w.drew,?_,(Upd.refl none_ w).drew⟩
   have hb':(xs[i] != ys[i])=true:=by simpa using hne
   simp only[K_2l,ha.len,hb.len,Int.ofNat_lt,hil,hil2,decide_true,if_true,hp hx,hq hy,J_bs,Int.natCast_nonneg,and_self,J_tn,Nat.mul_one,l1,l2,hb',e1,e2,List.cons.injEq,hne,false_and,if_false]
theorem K_w1{K:Nat}(hK:18446744073709551616≤K){a b:Sl}{xs ys:List Int}{w:World}(ha:RdS .u8 w a xs)(hb:RdS .u8 w b ys)(hs:xs.length<9223372036854775807):
  ∃ w',K_48 K a b w=some ((decide (xs=ys),()),w')∧Upd none_ w w':=by
 by_cases hl:xs.length=ys.length
 ·obtain⟨w',h1,h2⟩:=K_ty K (a:=a) (b:=b) hl hs xs.length 0 K w (by omega) (by omega) ha hb
  refine⟨w',?_,h2⟩
  have h1':K_1q K K a b 0 w=_:=h1
  simp only[K_48,ha.len,hb.len,hl,bne_self_eq_false,Bool.false_eq_true,if_false,h1',bnd_ok,List.drop_zero]
  by_cases h:xs=ys <;> simp[h]
 ·refine⟨w,?_,Upd.refl _ w⟩
  have h1:(((xs.length:Nat):Int) != ((ys.length:Nat):Int))=true:=by simp;omega
  have h2:xs≠ys:=fun e=>hl (by rw[e])
  simp only[K_48,ha.len,hb.len,h1,if_true,h2,decide_false]
end Go.Sh

namespace Go.Sh
open Go.Fw Go.RowKit Go.Proofs.Tryd
def marks:List Int:=(List.range 70).map fun i=>(((181+i) % 256:Nat):Int)
end Go.Sh

namespace Go.Sh
open Go.Fw Go.RowKit Go.Proofs.Tryd
theorem K_wr{w:World}{g cap:Nat}{bs:List Int}(h:OwnS 5 w ⟨some ⟨g,0,none⟩,bs.length+70,cap⟩ (ints .u8 (bs ++ marks))):
  OwnS 5 w ⟨some ⟨g,0,none⟩,bs.length,cap⟩ (ints .u8 bs):=by
 have:=h.cut (n:=bs.length) (Nat.le_add_right _ _)
 rw[K_9f,List.take_left]at this
 exact this
end Go.Sh

namespace Go.Sh
open Go.Fw Go.Gf Go.RowKit Go.Proofs.Tryd
theorem K_ug{P:Program}{t e:TypeId}{z:Value}{bytes:Nat}(T:OneSlice P t e z bytes)(w:World):
  ∃ w',bldS P t 0 #[] w=some (⟨some ⟨w.heap.size,0,none⟩,0,0⟩,w')∧OwnS e w' ⟨some ⟨w.heap.size,0,none⟩,0,0⟩ []∧Upd none_ w w':=by
 obtain⟨i,hi,hsz,hz,hby⟩:=T.info
 have hr:(Instr.buildSlice t 0 #[]).run P w= .ok (.slice (some ⟨w.heap.size,0,none⟩) 0 0) (w.alloc (.cells #[] e)):=by
  simp[Instr.buildSlice,run_underlying T.ht,sizeOf,typeInfo,hi,newRow,Instr.fill,show Array.range 0= #[] from rfl]
 refine⟨w.alloc (.cells #[] e),?_,⟨rfl,.inr ⟨w.heap.size,#[],rfl,heap_alloc_new w _,Nat.le_refl _,by simp only[maxLen];omega,by simp,by simp⟩⟩,Upd.alloc _ _ _⟩
 unfold bldS;rw[hr]
theorem K_ko{z:Value}(hz:z.cells= #[z])(n:Nat):(Builtin.zeroCells z.cells n)=(List.replicate n z).toArray:=by
 rw[hz]
 apply Array.ext (by simp[Builtin.zeroCells])
 intro k h1 h2
 simp[Builtin.zeroCells,Nat.mod_one]
theorem K_159{P:Program}{t tn e:TypeId}{z:Value}{bytes:Nat}{kn:IntKind}(T:OneSlice P t e z bytes)(h1:z.oneCell'=true)(htn:P.underlying tn=some (.int kn)){w:World}{s:Sl}{xs:List Value}(h:OwnS e w s xs)(h1x:∀ v∈xs,v.oneCell'=true){n:Nat}(hn:0<n)(hb:(s.len+n)*bytes≤1099511627776):
  ∃ s' w',apd P t tn (.slice s.a s.len s.cap) (.int .i64 (n:Int)) w=some (s',w')∧s'.len=s.len+n∧OwnS e w' s' (xs ++ List.replicate n z)∧Upd (fun k=>s.blk=some k) w w'∧(s'.blk=s.blk∨s'.blk=some w.heap.size):=by
 obtain⟨i,hi,hsz,hz,hby⟩:=T.info
 have hp:=T.pos
 have hbig:(s.len+n)≤(s.len+n)*bytes:=Nat.le_mul_of_pos_right _ hp
 have hbn:n*bytes≤(s.len+n)*bytes:=Nat.mul_le_mul_right _ (by omega)
 have hxl:s.len=xs.length:=h.len
 by_cases hroom:s.len+n≤s.cap
 ·
  obtain⟨g,cs,a1,a2,a3,a4,a5⟩:∃ g cs,s.a=some ⟨g,0,none⟩∧Bk e w g cs∧s.cap≤maxLen∧cs.length=s.cap∧cs.take s.len=xs:=by
   rcases h.2 with ⟨e1,e2,e3⟩ | ⟨g,cs,e1,e2,e3,e4,e5,e6⟩
   ·omega
   ·exact⟨g,cs.toList,e1,by unfold Bk;simpa using e2,e4,by simpa using e5,by simpa using e6⟩
  obtain⟨w',s1,s2,s3⟩:=Bk.stL (List.replicate n z) s.len 0 w cs a2 (by simp;omega) (fun v hv=>by rw[(List.mem_replicate.1 hv).2];exact h1)
  rw[Nat.add_zero]at s2
  have hst:=K_tz (P:=P) _ _ _ _ s1
  have hw:IntKind.i64.wrap (n:Int)=n:=by rw[IntKind.wrap_i64];omega
  have hneg:¬((n:Int)<0):=by omega
  have hns:¬(n*i.size=0):=Nat.mul_ne_zero (by omega) (by omega)
  have h48i:¬(281474976710656<(n:Int)*(i.bytes:Int)):=by rw[←Int.natCast_mul,hby];omega
  have hzl:(Builtin.zeroCells z.cells n)=(List.replicate n z).toArray:=K_ko T.z0 n
  refine⟨⟨some ⟨g,0,none⟩,s.len+n,s.cap⟩,w',?_,rfl,?_,s3.mono fun k _ hk=>by rw[hk];simp[Sl.blk,a1],.inl (by simp[Sl.blk,a1])⟩
  ·unfold apd
   rw[a1]
   simp[Builtin.append_,run_underlying T.ht,run_underlying htn,sizeOf,typeInfo,zeroValue,hi,hz,asInt,asIntOf,hw,hneg,hns,h48i,hroom,hzl,hsz,hst,(show ¬n=0 by omega)]
  ·have:=OwnS.of_bk s2 hroom a3 (by rw[K_r (by simp;omega)];exact a4)
   have e2:(seg cs s.len (List.replicate n z)).take (s.len+n)=xs ++ List.replicate n z:=by
    unfold seg
    rw[List.take_left' (by rw[List.length_append,List.length_take,List.length_replicate];omega),a5]
   rw[e2]at this
   exact this
 ·have hold:(Builtin.firstCells i.size s.len (.slice s.a s.len s.cap)).run P w.drew= .ok xs.toArray w.drew:=by
   cases ha:s.a with
   | none=>
    rcases h.2 with ⟨e1,e2,e3⟩ | ⟨g,cs,e1,_⟩
    ·have:xs=[]:=List.eq_nil_of_length_eq_zero (by omega)
     rw[this];simp[Builtin.firstCells]
    ·rw[ha]at e1;cases e1
   | some p=>
    have hsrc:=(h.drew).src h1x
    rcases hsrc.rd with ⟨e1,_⟩ | ⟨q,e1,e2⟩
    ·rw[ha]at e1;cases e1
    ·rw[ha]at e1
     obtain rfl:=Option.some.inj e1
     exact run_firstCells_some (P:=P) w.drew i.size s.len p s.len s.cap xs (by rw[hsz,hxl,Nat.mul_one]) e2
  have hw:IntKind.i64.wrap (n:Int)=n:=by rw[IntKind.wrap_i64];omega
  have hneg:¬((n:Int)<0):=by omega
  have hns:¬(n*i.size=0):=Nat.mul_ne_zero (by omega) (by omega)
  have h48i:¬(281474976710656<(n:Int)*(i.bytes:Int)):=by rw[←Int.natCast_mul,hby];omega
  have hfit:Builtin.nextslicecap (s.len+n) s.cap*i.bytes≤281474976710656:=growslice_fits (by omega) (by rw[hby];omega)
  have h48':¬(281474976710656<Builtin.nextslicecap (s.len+n) s.cap*i.bytes):=by omega
  have h63':¬(9223372036854775807<((s.len:Int)+(n:Int))):=by omega
  have hr:(Builtin.append_ #[t,tn] 0 #[.slice s.a s.len s.cap,.int .i64 n]).run P w =
    .ok (.slice (some ⟨w.heap.size,0,none⟩) (s.len+n) (grownCap w (s.len+n) s.cap e)) (w.drew.alloc (.cells (xs.toArray ++ Builtin.zeroCells z.cells n ++ Builtin.zeroCells z.cells (grownCap w (s.len+n) s.cap e - (s.len+n))) e)):=by
   simp[Builtin.append_,run_underlying T.ht,run_underlying htn,sizeOf,typeInfo,zeroValue,hi,hz,asInt,asIntOf,hw,hroom,hneg,hns,h63',h48',h48i,Question.forced,hold,newRow,grownCap]
  have hgc:=grownCap_le_maxLen w (s.len+n) s.cap e (by simp only[maxLen];omega)
  have hgl:=grownCap_ge w (s.len+n) s.cap e
  have hzl:∀ m,(Builtin.zeroCells z.cells m)=(List.replicate m z).toArray:=K_ko T.z0
  rw[hzl,hzl]at hr
  refine⟨⟨some ⟨w.heap.size,0,none⟩,s.len+n,grownCap w (s.len+n) s.cap e⟩,_,by unfold apd;rw[hr],rfl,⟨by show _=s.len+n;rw[List.length_append,List.length_replicate];omega,.inr ⟨w.heap.size,_,rfl,heap_alloc_new w.drew _,hgl,hgc,?_,?_⟩⟩,((Upd.refl _ w).drew.trans' (Upd.alloc none_ _ _) fun _ _ e=>e.elim),.inr rfl⟩
  ·simp;omega
  ·simp only[Array.toList_append]
   rw[List.take_left' (by simp;omega)]
abbrev BSrc(w:World)(s:Sl)(l:List F):Prop:=Fw.Src w s (fb l)
theorem K_ci{e:TypeId}{w:World}{s:Sl}{xs:List Value}(h:OwnS e w s xs):∀ q,s.a=some q→q.block<w.heap.size:=fun q hq=>h.lt (k:=q.block) (by simp[Sl.blk,hq])
theorem K_vw{w:World}{s:Sl}{vs:List Value}(h:Fw.Src w s vs){lo:Nat}(h1:lo≤vs.length):Fw.Src w ⟨sla s.a lo s.cap 1,s.len - lo,s.cap - lo⟩ (vs.drop lo):=by
 have hl:=h.len
 have hc:=h.cap
 refine⟨by simp;omega,by show s.len - lo≤s.cap - lo;omega,?_,fun v hv=>h.one v (List.mem_of_mem_drop hv)⟩
 rcases h.rd with ⟨a1,a2,a3⟩ | ⟨p,a1,a2⟩
 ·left
  refine⟨by simp[sla,a1],by show s.cap - lo=0;omega,by rw[a3];simp⟩
 ·right
  by_cases hm:s.cap=lo
  ·refine⟨p,by simp[sla,a1,hm],fun i v hv=>?_⟩
   have:vs.drop lo=[]:=List.drop_eq_nil_of_le (by omega)
   rw[this]at hv;simp at hv
  ·refine⟨p.add lo,by simp[sla,a1,hm],fun i v hv=>?_⟩
   have e:(p.add lo).add i=p.add (lo+i):=by
    unfold Addr.add
    by_cases h1:lo=0 <;> by_cases h2:i=0 <;> simp[h1,h2,Nat.add_assoc]
   rw[e]
   rw[List.getElem?_drop]at hv
   exact a2 _ _ hv
theorem K_13k{a:Option Addr}{lo m:Nat}{q:Addr}(h:sla a lo m 1=some q):∃ p,a=some p∧q.block=p.block:=by
 unfold sla at h
 split at h
 ·exact⟨q,h,rfl⟩
 ·cases ha:a with
  | none=>rw[ha]at h;simp at h
  | some p=>
   rw[ha]at h
   simp only[Option.map_some,Option.some.injEq]at h
   refine⟨p,rfl,?_⟩
   rw[←h];unfold Addr.add;split <;> rfl
theorem K_h1(K:Nat){w:World}{b:Sl}{l:List F}(hs:BSrc w b l)(hl:l.length≤1099511627776):
  ∃ s' w',K_e b w=some ((s',()),w')∧OwnS 5 w' s' (fb l)∧Upd none_ w w'∧Fresh w.heap.size s':=by
 have hbl:b.len=l.length:=by rw[hs.len,K_0]
 unfold K_e
 cases ha:b.a with
 | none=>
  have h0:l=[]:=by
   rcases hs.rd with ⟨e1,e2,e3⟩ | ⟨q,e1,e2⟩
   ·have:=congrArg List.length e3
    rw[K_0]at this
    exact List.eq_nil_of_length_eq_zero this
   ·rw[ha]at e1;cases e1
  exact⟨⟨none,0,0⟩,w,by rw[if_pos (by rfl)],by rw[h0];exact OwnS.nil _ _,Upd.refl _ _,fun k hk=>by cases hk⟩
 | some p=>
  obtain⟨w1,a1,a2,a3⟩:=K_ug sliceB w
  obtain⟨s2,w2,b1,b2,b3,b4,b5⟩:=K_34 sliceB a2 (hs.upd0 a3) (by show (0+b.len)*1≤_;omega)
  refine⟨s2,w2,?_,b3,a3.trans' b4 fun j hj e=>by have e2:w.heap.size=j:=Option.some.inj e;omega,fun j hj=>?_⟩
  ·rw[if_neg (by simp),a1,bnd_ok,←ha]
   dsimp only
   rw[b1,bnd_ok]
  ·rcases b5 with e | e
   ·rw[e]at hj;have e2:w.heap.size=j:=Option.some.inj hj;omega
   ·rw[e]at hj;have e2:w1.heap.size=j:=Option.some.inj hj;have:=a3.size;omega
end Go.Sh

namespace Go.Sh
open Go.Fw Go.Gf Go.RowKit Go.Proofs.Tryd
def onG:Nat→List F→List F→List F
 | _,[],N=>N
 | off,m :: ms,N=>onG (off+1) ms (N.set off (N.getD off 0+m))
theorem K_sy:∀ (ms:List F) (off:Nat) (N:List F),(onG off ms N).length=N.length
 | [],_,_=>rfl
 | m :: ms,off,N=>(K_sy ms (off+1) (N.set off (N.getD off 0+m))).trans (List.length_set ..)
theorem K_10p:∀ (ms:List F) (off:Nat) (N:List F),off+ms.length≤N.length→onG off ms N=N.take off ++ addHead ms (N.drop off)
 | [],off,N,_=>by
  have:addHead [] (N.drop off)=N.drop off:=by cases N.drop off <;> rfl
  rw[this,List.take_append_drop];rfl
 | m :: ms,off,N,h=>by
  simp only[List.length_cons]at h
  have hi:off<N.length:=by omega
  show onG (off+1) ms (N.set off _)=_
  rw[K_10p ms (off+1) _ (by rw[List.length_set];omega),List.drop_eq_getElem_cons hi]
  show _=N.take off ++ (m+N[off]) :: addHead ms (N.drop (off+1))
  have hg:N.getD off 0=N[off]:=by rw[J_gd,J_ge hi];rfl
  rw[hg,F.add_comm m,List.drop_set_of_lt (by omega),List.take_succ_eq_append_getElem (by simpa using hi)]
  simp[List.take_set_of_le]
def stepG(g:List F)(a:F):List F:=onG 1 (g.map (· *a)) (g ++ [0])
theorem K_115:stepG (stepG (stepG (stepG [1] (tj 0)) (tj 1)) (tj 2)) (tj 3)=genL:=by decide+kernel
theorem K_dd{e:TypeId}{w:World}{s:Sl}{l:List F}(h:OwnS e w s (fb l)){i:Nat}(hi:i<l.length):∃ p,s.a=some p∧ldI .u8 (p.add i) w=some (bF (l.getD i 0)):=by
 obtain⟨p,p1,p2⟩:=K_2b (h.src K_z) hi
 refine⟨p,p1,?_⟩
 rw[p2,J_gd,J_ge hi];rfl
theorem K_ki{e:TypeId}{w:World}{s:Sl}{l:List F}(h:OwnS e w s (fb l)){i:Nat}(hi:i<l.length)(v:F):
  ∃ p w',s.a=some p∧stC (p.add i) (.int .u8 (bF v)) w=some w'∧OwnS e w' s (fb (l.set i v))∧Upd (fun k=>s.blk=some k) w w':=by
 obtain⟨p,w',a,b,c,d⟩:=h.st (i:=i) (by rw[h.len,K_0];exact hi) (.int .u8 (bF v))
 rw[K_113]at c
 exact⟨p,w',a,b,c,d⟩
theorem K_12m{K:Nat}(hK:300≤K){b nx gs:Sl}{j:Nat}{a14:Int}{G:List F}(hG:G.length<4611686018427387904)(hne:∀ q,gs.a=some q→G≠[]→nx.blk≠some q.block):
  ∀ (d i m:Nat) (w:World) (N:List F),i+d=G.length→d<m→N.length=G.length+1→OwnS 5 w nx (fb N)→BSrc w gs G→
   ∃ w',K_2k K m b (j:Int) nx a14 gs ((G.length:Nat):Int) (i:Int) w=some ((),w')∧OwnS 5 w' nx (fb (onG (i+1) ((G.drop i).map (· *tj j)) N))∧Upd (fun k=>nx.blk=some k) w w':=by
 intro d
 induction d with
 | zero=>
  intro i m w N hi hm hN ho hs
  obtain⟨m,rfl⟩:∃ q,m=q+1:=⟨m - 1,by omega⟩
  refine⟨w,?_,by rw[List.drop_eq_nil_of_le (by omega)];exact ho,Upd.refl _ _⟩
  show K_5a K (K_2k K m) b (j:Int) nx a14 gs ((G.length:Nat):Int) (i:Int) w=_
  unfold K_5a
  rw[if_neg (by simp only[decide_eq_true_eq];omega)]
 | succ d ih=>
  intro i m w N hi hm hN ho hs
  obtain⟨m,rfl⟩:∃ q,m=q+1:=⟨m - 1,by omega⟩
  have hgl:gs.len=G.length:=by rw[hs.len,K_0]
  have hnl:nx.len=N.length:=by rw[ho.len,K_0]
  obtain⟨p,p1,p2⟩:=K_2b hs (i:=i) (by omega)
  have e3:IntKind.i64.wrap ((i:Int)+1)=((i+1:Nat):Int):=by rw[w64 (by omega) (by omega)];rfl
  have c1:(0:Int)≤(i:Int)∧(i:Int)<((gs.len:Nat):Int):=by omega
  have c2:(0:Int)≤((i+1:Nat):Int)∧((i+1:Nat):Int)<((nx.len:Nat):Int):=by omega
  have ud:=(Upd.refl none_ w).drew
  obtain⟨q,q1,q2⟩:=K_dd (ho.upd0 ud) (i:=i+1) (by omega)
  obtain⟨q',w1,s1,s2,s3,s4⟩:=K_ki (ho.upd0 ud) (i:=i+1) (by omega) (N.getD (i+1) 0+G[i]'(by omega)*tj j)
  obtain rfl:q'=q:=Option.some.inj (s1.symm.trans q1)
  have u1:Upd (fun k=>nx.blk=some k) w w1:=s4.predrew
  obtain⟨w2,k1,k2,k3⟩:=ih (i+1) m w1 _ (by omega) (by omega) (by rw[List.length_set];exact hN) s3 (K_3r hs u1 fun q hq hne'=>hne q hq hne')
  refine⟨w2,?_,?_,u1.trans' k3 fun _ _ e=>e⟩
  ·show K_5a K (K_2k K m) b (j:Int) nx a14 gs ((G.length:Nat):Int) (i:Int) w=_
   unfold K_5a
   rw[if_pos (decide_eq_true (show (i:Int)<((G.length:Nat):Int) by omega)),p1,J_bs,if_pos c1,J_tn,Nat.mul_one,p2,J_bs,q1,J_bs,e3,if_pos c2,J_tn,Nat.mul_one,q2,J_bs,K_lt hK,J_bs]
   dsimp only
   rw[tm hK,J_bs,J_bs,if_pos c2]
   dsimp only
   rw[addF,s2,J_bs,k1]
  ·rw[List.drop_eq_getElem_cons (show i<G.length by omega)]
   exact k2
theorem K_135{K:Nat}(hK:300≤K){b rs gs:Sl}{i9:Nat}{c:F}{a46 a47:Int}{G:List F}(hbig:i9+G.length<4611686018427387904)(hne:∀ q,gs.a=some q→G≠[]→rs.blk≠some q.block):
  ∀ (d i m:Nat) (w:World) (N:List F),i+d=G.length→d<m→i9+G.length≤N.length→OwnS 5 w rs (fb N)→BSrc w gs G→
   ∃ w',K_2i K m b gs rs (i9:Int) (bF c) a46 a47 gs ((G.length:Nat):Int) (i:Int) w=some ((),w')∧OwnS 5 w' rs (fb (onG (i9+i) ((G.drop i).map (c* ·)) N))∧Upd (fun k=>rs.blk=some k) w w':=by
 intro d
 induction d with
 | zero=>
  intro i m w N hi hm hN ho hs
  obtain⟨m,rfl⟩:∃ q,m=q+1:=⟨m - 1,by omega⟩
  refine⟨w,?_,by rw[List.drop_eq_nil_of_le (by omega)];exact ho,Upd.refl _ _⟩
  show K_5f K (K_2i K m) b gs rs (i9:Int) (bF c) a46 a47 gs ((G.length:Nat):Int) (i:Int) w=_
  unfold K_5f
  rw[if_neg (by simp only[decide_eq_true_eq];omega)]
 | succ d ih=>
  intro i m w N hi hm hN ho hs
  obtain⟨m,rfl⟩:∃ q,m=q+1:=⟨m - 1,by omega⟩
  have hgl:gs.len=G.length:=by rw[hs.len,K_0]
  have hnl:rs.len=N.length:=by rw[ho.len,K_0]
  obtain⟨p,p1,p2⟩:=K_2b hs (i:=i) (by omega)
  have e3:IntKind.i64.wrap ((i:Int)+1)=((i+1:Nat):Int):=by rw[w64 (by omega) (by omega)];rfl
  have e4:IntKind.i64.wrap ((i9:Int)+(i:Int))=((i9+i:Nat):Int):=by rw[w64 (by omega) (by omega)];rfl
  have c1:(0:Int)≤(i:Int)∧(i:Int)<((gs.len:Nat):Int):=by omega
  have c2:(0:Int)≤((i9+i:Nat):Int)∧((i9+i:Nat):Int)<((rs.len:Nat):Int):=by omega
  have ud:=(Upd.refl none_ w).drew
  obtain⟨q,q1,q2⟩:=K_dd (ho.upd0 ud) (i:=i9+i) (by omega)
  obtain⟨q',w1,s1,s2,s3,s4⟩:=K_ki (ho.upd0 ud) (i:=i9+i) (by omega) (N.getD (i9+i) 0+c*G[i]'(by omega))
  obtain rfl:q'=q:=Option.some.inj (s1.symm.trans q1)
  have u1:Upd (fun k=>rs.blk=some k) w w1:=s4.predrew
  obtain⟨w2,k1,k2,k3⟩:=ih (i+1) m w1 _ (by omega) (by omega) (by rw[List.length_set];exact hN) s3 (K_3r hs u1 fun q hq hne'=>hne q hq hne')
  refine⟨w2,?_,?_,u1.trans' k3 fun _ _ e=>e⟩
  ·show K_5f K (K_2i K m) b gs rs (i9:Int) (bF c) a46 a47 gs ((G.length:Nat):Int) (i:Int) w=_
   unfold K_5f
   rw[if_pos (decide_eq_true (show (i:Int)<((G.length:Nat):Int) by omega)),p1,J_bs,if_pos c1,J_tn,Nat.mul_one,p2,J_bs,q1,J_bs,e4,if_pos c2,J_tn,Nat.mul_one,q2,J_bs,tm hK,J_bs,J_bs,if_pos c2]
   dsimp only
   rw[addF,s2,J_bs,e3,k1]
  ·rw[List.drop_eq_getElem_cons (show i<G.length by omega)]
   exact k2
theorem K_fp{K:Nat}(hK:18446744073709551616≤K){b gs:Sl}{G:List F}(hG:G.length≤16){j m:Nat}(hj:j<4){w:World}(ho:OwnS 5 w gs (fb G)):
  ∃ s' w',K_1h K (m+1) b gs (j:Int) w=K_1h K m b s' ((j+1:Nat):Int) w'∧OwnS 5 w' s' (fb (stepG G (tj j)))∧Upd none_ w w'∧Fresh w.heap.size s':=by
 have hgl:gs.len=G.length:=by rw[ho.len,K_0]
 obtain⟨s1,w1,a1,a2,a3,a4⟩:=K_h1 K (ho.src K_z) (by omega)
 obtain⟨w2,b1,b2,b3,b4⟩:=K_57 sliceB (.int .u8 (bF 0)) rfl w1
 have b1:bldS prog 23 1 #[(0,(.int .u8 0))] w1=some (⟨some ⟨w1.heap.size,0,none⟩,1,1⟩,w2):=b1
 have b2:OwnS 5 w2 ⟨some ⟨w1.heap.size,0,none⟩,1,1⟩ (fb [0]):=b2
 have h1l:=a2.len
 rw[K_0]at h1l
 obtain⟨s3,w3,c1,c2,c3,c4,c5⟩:=K_34 sliceB (a2.upd0 b3) (b2.src K_z) (by show (s1.len+1)*1≤_;omega)
 rw[←K_5v]at c3
 have q1:=a3.size
 have q2:=b3.size
 have hf3:∀ k,s3.blk=some k→w.heap.size≤k:=fun k hk=>by
  rcases c5 with e | e
  ·rw[e]at hk;exact a4 k hk
  ·rw[e]at hk;have e2:w2.heap.size=k:=Option.some.inj hk;omega
 have u3:Upd none_ w w3:=(a3.and0 b3).trans' c4 fun k hk e=>by have:=a4 k e;omega
 have hgb:∀ q,gs.a=some q→q.block<w.heap.size:=K_ci ho
 obtain⟨w4,d1,d2,d3⟩:=K_12m (K:=K) (by omega) (b:=b) (a14:=(j:Int)) (j:=j) (by omega) (fun q hq _ e=>by have:=hf3 _ e;have:=hgb q hq;omega) G.length 0 K w3 _ (by omega) (by omega) (by rw[List.length_append];rfl) c3 ((ho.upd0 u3).src K_z)
 have d1:K_2k K K b (j:Int) s3 (j:Int) gs ((gs.len:Nat):Int) 0 w3=some ((),w4):=by rw[hgl];exact d1
 have e3:IntKind.i64.wrap ((j:Int)+1)=((j+1:Nat):Int):=by rw[w64 (by omega) (by omega)];rfl
 refine⟨s3,w4,?_,d2,u3.trans' d3 fun k hk e=>by have:=hf3 k e;omega,hf3⟩
 show K_5h K (K_1h K m) b gs (j:Int) w=_
 unfold K_5h
 rw[if_pos (decide_eq_true (show (j:Int)<4 by omega)),a1,bnd_ok,b1,bnd_ok]
 dsimp only
 rw[c1,bnd_ok,d1,bnd_ok,e3]
theorem K_12l{K:Nat}(hK:18446744073709551616≤K){b rs gs:Sl}{n:Nat}(hn:n≤1099511627776)(hne:∀ q,gs.a=some q→rs.blk≠some q.block):
  ∀ (d i m:Nat) (w:World) (R:List F),i+d=n→d<m→R.length=n+4→OwnS 5 w rs (fb R)→BSrc w gs genL→
   ∃ R' w',K_2e K m b gs rs ((n:Nat):Int) (i:Int) w=some ((),w')∧OwnS 5 w' rs (fb R')∧R'.length=n+4∧R'.drop n=divR d (R.drop i)∧Upd (fun k=>rs.blk=some k) w w':=by
 intro d
 induction d with
 | zero=>
  intro i m w R hi hm hR ho hs
  obtain⟨m,rfl⟩:∃ q,m=q+1:=⟨m - 1,by omega⟩
  obtain rfl:i=n:=by omega
  refine⟨R,w,?_,ho,hR,by cases R.drop i <;> rfl,Upd.refl _ _⟩
  show K_5c K (K_2e K m) b gs rs ((i:Nat):Int) (i:Int) w=_
  unfold K_5c
  rw[if_neg (by simp only[decide_eq_true_eq];omega)]
 | succ d ih=>
  intro i m w R hi hm hR ho hs
  obtain⟨m,rfl⟩:∃ q,m=q+1:=⟨m - 1,by omega⟩
  have hrl:rs.len=R.length:=by rw[ho.len,K_0]
  have hgl:gs.len=genL.length:=by rw[hs.len,K_0]
  have hg5:genL.length=5:=by rw[K_u8,List.length_cons,K_ls]
  obtain⟨p,p1,p2⟩:=K_dd ho (i:=i) (by omega)
  have c1:(0:Int)≤(i:Int)∧(i:Int)<((rs.len:Nat):Int):=by omega
  have e3:IntKind.i64.wrap ((i:Int)+1)=((i+1:Nat):Int):=by rw[w64 (by omega) (by omega)];rfl
  obtain⟨w1,s1,s2,s3⟩:=K_135 (K:=K) (by omega) (b:=b) (i9:=i) (c:=R.getD i 0) (a46:=((n:Nat):Int)) (a47:=(i:Int)) (G:=genL) (by omega) (fun q hq _=>hne q hq) genL.length 0 K w R (by omega) (by omega) (by omega) ho hs
  have s1:K_2i K K b gs rs (i:Int) (bF (R.getD i 0)) ((n:Nat):Int) (i:Int) gs ((gs.len:Nat):Int) 0 w=some ((),w1):=by rw[hgl];exact s1
  rw[Nat.add_zero,List.drop_zero]at s2
  obtain⟨R',w2,k1,k2,k3,k4,k5⟩:=ih (i+1) m w1 _ (by omega) (by omega) (by rw[K_sy];exact hR) s2 (K_3r hs s3 fun q hq _=>hne q hq)
  refine⟨R',w2,?_,k2,k3,?_,s3.trans' k5 fun _ _ e=>e⟩
  ·show K_5c K (K_2e K m) b gs rs ((n:Nat):Int) (i:Int) w=_
   unfold K_5c
   rw[if_pos (decide_eq_true (show (i:Int)<((n:Nat):Int) by omega)),p1,J_bs,if_pos c1,J_tn,Nat.mul_one,p2,J_bs,s1,bnd_ok,e3,k1]
  ·rw[k4,K_10p _ _ _ (by rw[List.length_map];omega)]
   have h1:R.drop i=R.getD i 0 :: R.drop (i+1):=by
    rw[List.drop_eq_getElem_cons (show i<R.length by omega)]
    congr 1
    rw[J_gd,J_ge (by omega)];rfl
   rw[h1,K_u8,List.map_cons]
   have h2:(R.take i ++ addHead (R.getD i 0*1 :: genT.map (R.getD i 0* ·)) (R.getD i 0 :: R.drop (i+1))).drop (i+1)=addHead (genT.map (R.getD i 0* ·)) (R.drop (i+1)):=by
    show (R.take i ++ (_ :: addHead (genT.map (R.getD i 0* ·)) (R.drop (i+1)))).drop (i+1)=_
    rw[List.drop_append,List.drop_eq_nil_of_le (by rw[List.length_take];omega),List.length_take,Nat.min_eq_left (by omega),show i+1 - i=1 by omega]
    rfl
   rw[h2]
   rfl
theorem K_wb{K:Nat}(hK:18446744073709551616≤K){w:World}{b:Sl}{l:List F}(hs:BSrc w b l)(hl:l.length≤1073741824):
  ∃ s' w',K_66 K b w=some ((s',()),w')∧OwnS 5 w' s' (fb (codedP l))∧Upd none_ w w'∧Fresh w.heap.size s':=by
 have hbl:b.len=l.length:=by rw[hs.len,K_0]
 obtain⟨w0,a1,a2,a3,a4⟩:=K_57 sliceB (.int .u8 (bF 1)) rfl w
 have a1:bldS prog 23 1 #[(0,(.int .u8 1))] w=some (⟨some ⟨w.heap.size,0,none⟩,1,1⟩,w0):=a1
 have a2:OwnS 5 w0 ⟨some ⟨w.heap.size,0,none⟩,1,1⟩ (fb [1]):=a2
 obtain⟨k,hk⟩:∃ k,K=k+5:=⟨K - 5,by omega⟩
 obtain⟨s1,w1,b1,b2,b3,b4⟩:=K_fp hK (b:=b) (G:=[1]) (by decide) (j:=0) (m:=k+4) (by omega) a2
 obtain⟨s2,w2,c1,c2,c3,c4⟩:=K_fp hK (b:=b) (G:=stepG [1] (tj 0)) (by decide) (j:=1) (m:=k+3) (by omega) b2
 obtain⟨s3,w3,d1,d2,d3,d4⟩:=K_fp hK (b:=b) (G:=stepG (stepG [1] (tj 0)) (tj 1)) (by decide) (j:=2) (m:=k+2) (by omega) c2
 obtain⟨s4,w4,e1,e2,e3,e4⟩:=K_fp hK (b:=b) (G:=stepG (stepG (stepG [1] (tj 0)) (tj 1)) (tj 2)) (by decide) (j:=3) (m:=k+1) (by omega) d2
 rw[K_115]at e2
 have hl0:K_1h K K b ⟨some ⟨w.heap.size,0,none⟩,1,1⟩ 0 w0=some ((s4,()),w4):=by
  have gen:∀ n,n=k+5→K_1h K n b ⟨some ⟨w.heap.size,0,none⟩,1,1⟩ ((0:Nat):Int) w0=some ((s4,()),w4):=fun n hn=>by
   rw[hn,b1,c1,d1,e1]
   show K_5h K (K_1h K k) b s4 ((4:Nat):Int) w4=_
   unfold K_5h
   rw[if_neg (by decide)]
  exact gen K hk
 have u4:Upd none_ w w4:=(((a3.and0 b3).and0 c3).and0 d3).and0 e3
 obtain⟨s5,w5,f1,f2,f3,f4⟩:=K_h1 K (hs.upd0 u4) (by omega)
 have h5l:=f2.len
 rw[K_0]at h5l
 obtain⟨s6,w6,g1,g2,g3,g4,g5⟩:=K_159 sliceB rfl (tn:=3) (kn:=.i64) (by kernel_rfl) f2 (K_14 _) (n:=4) (by omega) (by omega)
 have g1:apd prog 23 3 (.slice s5.a s5.len s5.cap) (.int .i64 4) w5=some (s6,w6):=g1
 have ez:List.replicate 4 (Value.int .u8 0)=fb [0,0,0,0]:=rfl
 rw[ez,←K_5v]at g3
 have q4:=u4.size
 have q5:=f3.size
 have hs4:∀ q,s4.a=some q→q.block<w4.heap.size:=K_ci e2
 have hf6:∀ j,s6.blk=some j→w4.heap.size≤j:=fun j hj=>by
  rcases g5 with e | e
  ·rw[e]at hj;exact f4 j hj
  ·rw[e]at hj;have e2:w5.heap.size=j:=Option.some.inj hj;omega
 have u46:Upd none_ w4 w6:=f3.trans' g4 fun j hj e=>by have:=f4 j e;omega
 obtain⟨R,w7,h1,h2,h3,h4,h5⟩:=K_12l hK (b:=b) (rs:=s6) (gs:=s4) (n:=l.length) (by omega) (fun q hq e=>by have:=hf6 _ e;have:=hs4 q hq;omega) l.length 0 K w6 _ (by omega) (by omega) (by rw[List.length_append];rfl) g3 ((e2.upd0 u46).src K_z)
 have h1:K_2e K K b s4 s6 ((b.len:Nat):Int) 0 w6=some ((),w7):=by rw[hbl];exact h1
 have u47:Upd none_ w4 w7:=u46.trans' h5 fun j hj e=>by have:=hf6 j e;omega
 have u7:Upd none_ w w7.drew:=(u4.and0 u47).drew
 obtain⟨s8,w8,i1,i2,i3,i4⟩:=K_h1 K (hs.upd0 u7) (by omega)
 have h8l:=i2.len
 rw[K_0]at h8l
 have h6l:s6.len=l.length+4:=by rw[h2.len,K_0,h3]
 have hsub:=Go.Fw.OwnS.src (((h2.upd0 (Upd.refl none_ w7).drew).upd0 i3)) (K_14 _)
 have hd:=K_vw hsub (lo:=l.length) (by rw[K_0];omega)
 rw[K_ym]at hd
 obtain⟨s9,w9,j1,j2,j3,j4,j5⟩:=K_34 sliceB i2 hd (by show (s8.len+(s6.len - l.length))*1≤_;omega)
 rw[←K_5v,h4,List.drop_zero]at j3
 have q7:=u7.size
 have q8:=i3.size
 have cc:(0:Int)≤((l.length:Nat):Int)∧((l.length:Nat):Int)≤((s6.len:Nat):Int):=by omega
 refine⟨s9,w9,?_,j3,(u7.and0 i3).trans' j4 fun j hj e=>by have:=i4 j e;omega,fun j hj=>?_⟩
 ·unfold K_66
  rw[a1,bnd_ok,hl0,bnd_ok,f1,bnd_ok,g1,bnd_ok,h1,bnd_ok,hbl,if_pos cc,i1,bnd_ok,J_tn]
  dsimp only
  rw[j1,bnd_ok]
 ·rcases j5 with e | e
  ·rw[e]at hj;have:=i4 j hj;omega
  ·rw[e]at hj;have e2:w8.heap.size=j:=Option.some.inj hj;omega
end Go.Sh

namespace Go.Sh
open Go.Fw Go.Gf Go.RowKit Go.Proofs.Tryd
abbrev timesV:Value:=.func (.func 61) #[] #[]
theorem K_bh{β:Type}{K:Nat}(hK:300≤K)(a b:F)(w:World)(k:Value→World→Option β):
  dyn (tab (K_k K)) timesV [.int .u8 (bF a),.int .u8 (bF b)] w k=k (.int .u8 (bF (a*b))) w:=by
 have e:∀ x y:Int,dyn (tab (K_k K)) timesV [.int .u8 x,.int .u8 y] w k=(K_d K x y).bind fun r=>k (.int .u8 r.1) w:=fun _ _=>rfl
 rw[e,tm hK,J_bs]
theorem K_7{β:Type}(v:Value)(o:Option β):sameK v v o=o:=by unfold sameK;simp
theorem K_dn(κ:IntKind)(n:Int):asI κ (.int κ n)=some n:=by cases κ <;> rfl
theorem und170:prog.underlying 170=some (.array 4 5):=by kernel_rfl
theorem und5':prog.underlying 5=some (.int .u8):=by kernel_rfl
theorem built170:prog.built 170 []=some (fb [0,0,0,0]).toArray:=by kernel_rfl
theorem K_yo(l:List F):(fb l).toArray.toList.all (isI .u8)=true:=by
 rw[List.all_eq_true];intro v hv
 obtain⟨x,_,rfl⟩:=List.mem_map.1 hv
 rfl
theorem K_yb(l:List F):(fb l).toArray.toList.map numI=l.map bF:=by
 show ((l.map bF).map (Value.int .u8)).map numI=l.map bF
 rw[List.map_map];exact List.map_id _
theorem eq170{l m:List F}(hl:l.length=4)(hm:m.length=4):eqA prog 170 (fb l).toArray (fb m).toArray=some (decide (l=m)):=by
 unfold eqA
 rw[und170]
 dsimp only
 rw[und5']
 dsimp only
 rw[if_pos ⟨by rw[List.size_toArray,K_0,hl],by rw[List.size_toArray,K_0,hm],K_yo l,K_yo m⟩,K_yb,K_yb]
 rw[decide_eq_decide.2 K_12c]
theorem K_lp(l:List F):sumsL l=[0,0,0,0]↔Right l:=by
 constructor
 ·intro h j hj
  simp only[sumsL,List.cons.injEq,and_true]at h
  obtain⟨h0,h1,h2,h3⟩:=h
  match j,hj with
  | 0,_=>exact h0
  | 1,_=>exact h1
  | 2,_=>exact h2
  | 3,_=>exact h3
 ·intro h
  have h0:sj l 0=0:=h 0 (by decide)
  have h1:sj l 1=0:=h 1 (by decide)
  have h2:sj l 2=0:=h 2 (by decide)
  have h3:sj l 3=0:=h 3 (by decide)
  simp[sumsL,h0,h1,h2,h3]
theorem cells4{K:Nat}(_:300≤K){w:World}{g:Nat}{e:TypeId}{c0 c1 c2 c3:F}(b:Bk e w g (fb [c0,c1,c2,c3])):ldI .u8 (⟨g,0,none⟩:Addr) w=some (bF c0)∧ldI .u8 (⟨g,1,none⟩:Addr) w=some (bF c1)∧ldI .u8 (⟨g,2,none⟩:Addr) w=some (bF c2)∧ldI .u8 (⟨g,3,none⟩:Addr) w=some (bF c3):=
 ⟨K_ha b (j:=0) (by simp),K_ha b (j:=1) (by simp),K_ha b (j:=2) (by simp),K_ha b (j:=3) (by simp)⟩
section
variable {K:Nat} (hK:300≤K) {w:World} {g:Nat} {e:TypeId} {c0 c1 c2 c3:F}
include hK
theorem K_16c(b:Bk e w g (fb [c0,c1,c2,c3])):K_4s K ⟨g,0,none⟩ timesV w=some ((bF (c0*c2+c1*c1),()),w.drew):=by
 obtain⟨d0,d1,d2,d3⟩:=cells4 hK b.drew
 unfold K_4s
 simp only[Nat.mul_one,add_lit,Nat.zero_add,d0,d1,d2,J_bs,K_bh hK,K_dn,K_7,addF]
theorem K_16u(b:Bk e w g (fb [c0,c1,c2,c3])):K_4k K ⟨g,0,none⟩ w=some ((decide (c0=0∨c1=0),()),w):=by
 obtain⟨d0,d1,d2,d3⟩:=cells4 hK b
 unfold K_4k
 simp only[Nat.mul_one,add_lit,Nat.zero_add,d0,d1,J_bs,K_og]
 by_cases h:c0=0
 ·rw[if_pos h];simp[h]
 ·rw[if_neg h]
  have:(bF c1 == 0)=decide (c1=0):=by rw[Bool.eq_iff_iff,K_og,decide_eq_true_eq]
  rw[this];simp[h]
theorem K_171(b:Bk e w g (fb [c0,c1,c2,c3]))(dl:F):K_3b K ⟨g,0,none⟩ timesV (bF dl) w=some ((bF ((c0*c3+c1*c2)*dl.inv),()),w.drew):=by
 obtain⟨d0,d1,d2,d3⟩:=cells4 hK b.drew
 unfold K_3b
 simp only[Nat.mul_one,add_lit,Nat.zero_add,d0,d1,d2,d3,J_bs,K_bh hK,K_dn,K_7,addF,K_p6 hK]
theorem K_162(b:Bk e w g (fb [c0,c1,c2,c3]))(dl:F):K_39 K ⟨g,0,none⟩ timesV (bF dl) w=some ((bF ((c1*c3+c2*c2)*dl.inv),()),w.drew):=by
 obtain⟨d0,d1,d2,d3⟩:=cells4 hK b.drew
 unfold K_39
 simp only[Nat.mul_one,add_lit,Nat.zero_add,d0,d1,d2,d3,J_bs,K_bh hK,K_dn,K_7,addF,K_p6 hK]
end
theorem K_16k{K:Nat}(hK:300≤K){b:Sl}{s5:Addr}(o t:F){n:Nat}(hn:n≤255):
  ∀ (d i m:Nat) (w:World) (ps:Sl) (P:List F),i+d=n→d<m→P.length≤i→OwnS 5 w ps (fb P)→
   ∃ s' w',K_15 K m b s5 ps timesV (bF o) (bF t) ((n:Nat):Int) (i:Int) w=some ((s',()),w')∧OwnS 5 w' s' (fb (P ++ rootsG o t d i))∧Upd (fun k=>ps.blk=some k) w w'∧∀ k,s'.blk=some k→ps.blk=some k∨w.heap.size≤k:=by
 intro d
 induction d with
 | zero=>
  intro i m w ps P hi hm hP ho
  obtain⟨m,rfl⟩:∃ q,m=q+1:=⟨m - 1,by omega⟩
  refine⟨ps,w,?_,by rw[show rootsG o t 0 i=[] from rfl,List.append_nil];exact ho,Upd.refl _ _,fun k hk=>.inl hk⟩
  show K_3n K (K_15 K m) b s5 ps timesV (bF o) (bF t) ((n:Nat):Int) (i:Int) w=_
  unfold K_3n
  rw[if_neg (by simp only[decide_eq_true_eq];omega)]
 | succ d ih=>
  intro i m w ps P hi hm hP ho
  obtain⟨m,rfl⟩:∃ q,m=q+1:=⟨m - 1,by omega⟩
  have e3:IntKind.i64.wrap ((i:Int)+1)=((i+1:Nat):Int):=by rw[w64 (by omega) (by omega)];rfl
  have hun:K_15 K (m+1) b s5 ps timesV (bF o) (bF t) ((n:Nat):Int) (i:Int) w=K_3n K (K_15 K m) b s5 ps timesV (bF o) (bF t) ((n:Nat):Int) (i:Int) w:=rfl
  rw[hun]
  unfold K_3n
  rw[if_pos (decide_eq_true (show (i:Int)<((n:Nat):Int) by omega)),K_lt hK,J_bs]
  dsimp only
  rw[K_bh hK,K_dn,J_bs,K_bh hK,K_dn,J_bs,addF,addF,e3]
  by_cases h:tj i*tj i+o*tj i+t=0
  ·rw[if_pos (by rw[K_og];exact h)]
   obtain⟨w1,a1,a2,a3,a4⟩:=K_57 sliceB (.int .u8 (bF (tj i))) rfl w
   have a2:OwnS 5 w1 ⟨some ⟨w.heap.size,0,none⟩,1,1⟩ (fb [tj i]):=a2
   have hpl:=ho.len
   rw[K_0]at hpl
   obtain⟨s2,w2,b1,b2,b3,b4,b5⟩:=K_34 sliceB (ho.upd0 a3) (a2.src K_z) (by show (ps.len+1)*1≤_;omega)
   rw[←K_5v]at b3
   have q1:=a3.size
   have hs2:∀ k,s2.blk=some k→ps.blk=some k∨w.heap.size≤k:=fun k hk=>by
    rcases b5 with e | e
    ·rw[e]at hk;exact .inl hk
    ·rw[e]at hk;have e2:w1.heap.size=k:=Option.some.inj hk;exact .inr (by omega)
   have u2:Upd (fun k=>ps.blk=some k) w w2:=(a3.mono (T:=fun k=>ps.blk=some k) fun _ _ e=>e.elim).trans' b4 fun _ _ e=>e
   have q2:=u2.size
   obtain⟨s3,w3,c1,c2,c3,c4⟩:=ih (i+1) m w2 s2 _ (by omega) (by omega) (by rw[List.length_append];show P.length+1≤_;omega) b3
   refine⟨s3,w3,by rw[a1,bnd_ok];dsimp only;rw[b1,bnd_ok,c1],?_,u2.trans' c3 (fun k hk e=>(hs2 k e).elim id fun e2=>absurd hk (by omega)),fun k hk=>(c4 k hk).elim (hs2 k) fun e=>.inr (by omega)⟩
   have er:rootsG o t (d+1) i=tj i :: rootsG o t d (i+1):=by show (if _ then _ else _)=_;rw[if_pos h]
   rw[er]
   rw[List.append_assoc]at c2
   exact c2
  ·rw[if_neg (by rw[K_og];exact h)]
   obtain⟨s3,w3,c1,c2,c3,c4⟩:=ih (i+1) m w ps P (by omega) (by omega) (by omega) ho
   have er:rootsG o t (d+1) i=rootsG o t d (i+1):=by show (if _ then _ else _)=_;rw[if_neg h]
   exact⟨s3,w3,c1,by rw[er];exact c2,c3,c4⟩
def atI:Option Nat→Int
 | some k=>(k:Int)
 | none=>-1
theorem K_16w{K:Nat}(hK:300≤K){s5:Addr}{ps out a113:Sl}(x v:F){a114 a115:Int}{n:Nat}(hn:n≤255)(hol:out.len=n):
  ∀ (d i m:Nat) (w:World) (a:Option Nat),i+d=n→d<m→
   K_1i K m s5 ps timesV out (bF x) (bF v) (atI a) a113 a114 a115 ((n:Nat):Int) (i:Int) w=some ((atI (atG n x d i a),()),w):=by
 intro d
 induction d with
 | zero=>
  intro i m w a hi hm
  obtain⟨m,rfl⟩:∃ q,m=q+1:=⟨m - 1,by omega⟩
  show K_3o K (K_1i K m) s5 ps timesV out (bF x) (bF v) (atI a) a113 a114 a115 ((n:Nat):Int) (i:Int) w=_
  unfold K_3o
  rw[if_neg (by simp only[decide_eq_true_eq];omega)]
  rfl
 | succ d ih=>
  intro i m w a hi hm
  obtain⟨m,rfl⟩:∃ q,m=q+1:=⟨m - 1,by omega⟩
  have e3:IntKind.i64.wrap ((i:Int)+1)=((i+1:Nat):Int):=by rw[w64 (by omega) (by omega)];rfl
  have e1:IntKind.i64.wrap (((n:Nat):Int) - 1)=((n - 1:Nat):Int):=by rw[w64 (by omega) (by omega)];omega
  have e2:IntKind.i64.wrap (((n - 1:Nat):Int) - (i:Int))=((n - 1 - i:Nat):Int):=by rw[w64 (by omega) (by omega)];omega
  show K_3o K (K_1i K m) s5 ps timesV out (bF x) (bF v) (atI a) a113 a114 a115 ((n:Nat):Int) (i:Int) w=_
  unfold K_3o
  rw[if_pos (decide_eq_true (show (i:Int)<((n:Nat):Int) by omega)),hol,e1,e2,K_lt hK,J_bs,e3]
  dsimp only
  by_cases h:tj (n - 1 - i)=x
  ·rw[if_pos (by rw[beq_iff_eq,h])]
   have:=ih (i+1) m w (some i) (by omega) (by omega)
   rw[show atG n x (d+1) i a=atG n x d (i+1) (some i) from by show atG n x d (i+1) (if _ then _ else _)=_;rw[if_pos h]]
   exact this
  ·rw[if_neg (by rw[beq_iff_eq,bF_eq];exact h)]
   have:=ih (i+1) m w a (by omega) (by omega)
   rw[show atG n x (d+1) i a=atG n x d (i+1) a from by show atG n x d (i+1) (if _ then _ else _)=_;rw[if_neg h]]
   exact this
end Go.Sh

namespace Go.Sh
open Go.Fw Go.Gf Go.RowKit Go.Proofs.Tryd
theorem K_w4:∀ (l:List F) (i:Nat) (v:F),putX l i v=l.set i (l.getD i 0+v)
 | [],_,_=>rfl
 | c :: l,0,v=>rfl
 | c :: l,i+1,v=>by
  show c :: putX l i v=c :: l.set i _
  rw[K_w4 l i v];rfl
theorem K_16a{K:Nat}(hK:300≤K){w:World}{g:Nat}{e:TypeId}{c0 c1 c2 c3:F}(b:Bk e w g (fb [c0,c1,c2,c3])){ps:Sl}{P:List F}(hs:BSrc w ps P)(hP:P.length=2){i:Nat}(hi:i<2)(x:F):
  K_25 K ⟨g,0,none⟩ ps timesV (i:Int) (bF x) (bF c0) true w=some ((bF (vOf c0 c1 x (P.getD (1 - i) 0)),()),w.drew):=by
 have ud:=(Upd.refl none_ w).drew
 obtain⟨d0,d1,d2,d3⟩:=cells4 hK b.drew
 obtain⟨p,p1,p2⟩:=K_2b (hs.upd0 ud) (i:=1 - i) (by omega)
 have hg:P[1 - i]'(by omega)=P.getD (1 - i) 0:=by rw[J_gd,J_ge (by omega)];rfl
 rw[hg]at p2
 have hpl:ps.len=2:=by rw[hs.len,K_0,hP]
 have e1:IntKind.i64.wrap (1 - (i:Int))=((1 - i:Nat):Int):=by rw[w64 (by omega) (by omega)];omega
 have cc:(0:Int)≤((1 - i:Nat):Int)∧((1 - i:Nat):Int)<((ps.len:Nat):Int):=by omega
 unfold K_25 K_6s
 rw[if_pos rfl,p1,J_bs,e1,if_pos cc,J_bs,if_pos cc,J_tn]
 simp only[Nat.mul_one,add_lit,Nat.zero_add,d0,d1,p2,J_bs,K_bh hK,K_dn,K_7,addF,K_p6 hK,bnd_ok]
 rfl
theorem K_15a{K:Nat}{w:World}{s5:Addr}{ps:Sl}{i x v:Int}:K_25 K s5 ps timesV i x v false w=some ((v,()),w):=rfl
def addV(P:List F)(c0 c1:F)(i:Nat):F:=if P.length=2 then vOf c0 c1 (P.getD i 0) (P.getD (1 - i) 0) else c0
theorem K_11r{K:Nat}(hK:18446744073709551616≤K){w:World}{g:Nat}{e:TypeId}{c0 c1 c2 c3:F}(b:Bk e w g (fb [c0,c1,c2,c3])){ps out:Sl}{P O:List F}(hs:BSrc w ps P)(ho:OwnS 5 w out (fb O))(hO:O.length≤255){i:Nat}(hi:i<P.length)(hP:P.length≤2)(m:Nat):
  (fix O (P.getD i 0) (addV P c0 c1 i)=none→∃ w',K_a K (m+1) ⟨g,0,none⟩ ps timesV out ps ((P.length:Nat):Int) (i:Int) w=some (.ret (⟨none,0,0⟩,0,false,()),w')∧Upd none_ w w')∧
  (∀ O2,fix O (P.getD i 0) (addV P c0 c1 i)=some O2→∃ w',K_a K (m+1) ⟨g,0,none⟩ ps timesV out ps ((P.length:Nat):Int) (i:Int) w=K_a K m ⟨g,0,none⟩ ps timesV out ps ((P.length:Nat):Int) ((i+1:Nat):Int) w'∧OwnS 5 w' out (fb O2)∧Upd (fun k=>out.blk=some k) w w'):=by
 have hpl:ps.len=P.length:=by rw[hs.len,K_0]
 have hol:out.len=O.length:=by rw[ho.len,K_0]
 obtain⟨d0,d1,d2,d3⟩:=cells4 (show 300≤K by omega) b
 obtain⟨p,p1,p2⟩:=K_2b hs hi
 have hg:P[i]=P.getD i 0:=by rw[J_gd,J_ge (by omega)];rfl
 rw[hg]at p2
 have cc:(0:Int)≤(i:Int)∧(i:Int)<((ps.len:Nat):Int):=by omega
 have e3:IntKind.i64.wrap ((i:Int)+1)=((i+1:Nat):Int):=by rw[w64 (by omega) (by omega)];rfl
 obtain⟨w1,h7,u1⟩:∃ w1,K_25 K ⟨g,0,none⟩ ps timesV (i:Int) (bF (P.getD i 0)) (bF c0) (((ps.len:Nat):Int) == 2) w=some ((bF (addV P c0 c1 i),()),w1)∧Upd none_ w w1:=by
  by_cases h2:P.length=2
  ·have:(((ps.len:Nat):Int) == 2)=true:=by rw[hpl,h2];rfl
   rw[this]
   refine⟨w.drew,?_,(Upd.refl _ _).drew⟩
   rw[K_16a (by omega) b hs h2 (by omega)]
   unfold addV;rw[if_pos h2]
  ·have:(((ps.len:Nat):Int) == 2)=false:=by rw[beq_eq_false_iff_ne];omega
   rw[this]
   refine⟨w,?_,Upd.refl _ _⟩
   rw[K_15a]
   unfold addV;rw[if_neg h2]
 have h9:=K_16w (K:=K) (by omega) (s5:=⟨g,0,none⟩) (ps:=ps) (out:=out) (a113:=ps) (P.getD i 0) (addV P c0 c1 i) (a114:=((P.length:Nat):Int)) (a115:=(i:Int)) (n:=O.length) hO hol O.length 0 K w1 none (by omega) (by omega)
 have h9:K_1i K K ⟨g,0,none⟩ ps timesV out (bF (P.getD i 0)) (bF (addV P c0 c1 i)) (-1) ps ((P.length:Nat):Int) (i:Int) ((out.len:Nat):Int) 0 w1=some ((atI (atOf O.length (P.getD i 0)),()),w1):=by rw[hol];exact h9
 have hun:K_a K (m+1) ⟨g,0,none⟩ ps timesV out ps ((P.length:Nat):Int) (i:Int) w=K_3q K (K_a K m) ⟨g,0,none⟩ ps timesV out ps ((P.length:Nat):Int) (i:Int) w:=rfl
 rw[hun]
 unfold K_3q
 rw[if_pos (decide_eq_true (show (i:Int)<((P.length:Nat):Int) by omega)),p1,J_bs,if_pos cc,J_tn,Nat.mul_one,p2,J_bs,Nat.zero_mul,add_lit,Nat.zero_add,d0,J_bs,h7,bnd_ok]
 dsimp only
 rw[h9,bnd_ok]
 unfold Gf.fix
 cases ha:atOf O.length (P.getD i 0) with
 | none=>
  refine⟨fun _=>⟨w1,?_,u1⟩,fun O2 h=>by cases h⟩
  rfl
 | some k=>
  refine⟨fun h=>(by cases h),fun O2 h=>?_⟩
  have h:putX O k (addV P c0 c1 i)=O2:=Option.some.inj h
  have hk:=(K_uv hO ha).1
  have ho1:=ho.upd0 u1
  obtain⟨q,q1,q2⟩:=K_dd ho1 (i:=k) hk
  obtain⟨q',w2,s1,s2,s3,s4⟩:=K_ki ho1 (i:=k) hk (O.getD k 0+addV P c0 c1 i)
  obtain rfl:q'=q:=Option.some.inj (s1.symm.trans q1)
  rw[←K_w4,h]at s3
  have ck:(0:Int)≤(k:Int)∧(k:Int)<((out.len:Nat):Int):=by omega
  refine⟨w2,?_,s3,(u1.mono (T:=fun k=>out.blk=some k) fun _ _ e=>e.elim).trans' s4 fun _ _ e=>e⟩
  have eat:atI (some k)=(k:Int):=rfl
  rw[eat]
  dsimp only
  rw[if_neg (by simp only[decide_eq_true_eq];omega),q1,J_bs,if_pos ck,J_tn,Nat.mul_one,q2,J_bs,J_bs,if_pos ck,addF,s2,J_bs,e3]
theorem K_ya{K:Nat}{s5:Addr}{ps out:Sl}{n:Nat}{w:World}(m:Nat):K_a K (m+1) s5 ps timesV out ps ((n:Nat):Int) ((n:Nat):Int) w=some (.norm (),w):=by
 show K_3q K (K_a K m) s5 ps timesV out ps ((n:Nat):Int) ((n:Nat):Int) w=_
 unfold K_3q
 rw[if_neg (by simp)]
theorem K_y1{K:Nat}(hK:18446744073709551616≤K){w:World}{b:Sl}{l:List F}(hs:BSrc w b l)(hl:l.length≤255):
  ∃ s n v w',K_51 K b w=some ((s,n,v,()),w')∧Upd none_ w w'∧(match Gf.repP l with | some r=>v=true∧n=((r.2:Nat):Int)∧BSrc w' s r.1∧(s=b∨Fresh w.heap.size s) | none=>v=false):=by
 have hK3:300≤K:=by omega
 obtain⟨w1,a1,u1⟩:=K_uq hK hs (by omega)
 obtain⟨w2,b1,b2,b3,b4⟩:=K_g z170 170 w1
 have b2:Bk 170 w2 w1.heap.size (fb [0,0,0,0]):=b2
 obtain⟨w3,c1,c2,c3⟩:=b2.stA (o:=0) (vs:=(fb (sumsL l)).toArray) (by simp[fb,ints,sumsL]) (fun v hv=>K_14 _ v hv)
 have c2:Bk 170 w3 w1.heap.size (fb [sj l 0,sj l 1,sj l 2,sj l 3]):=c2
 have u3:Upd none_ w w3:=(u1.and0 b3).trans' c3 fun k hk e=>by have:=u1.size;omega
 have g1:=c2.ldA (i:=0) (n:=4) (by rw[K_0];simp)
 have g1:ldA 4 ⟨w1.heap.size,0,none⟩ w3=some (fb (sumsL l)).toArray:=g1
 have hq1:=u1.size
 unfold K_51
 rw[a1,bnd_ok,b1,bnd_ok,if_pos (by simp[fb,ints,sumsL]),c1,J_bs,g1,J_bs,built170,J_bs,eq170 rfl rfl,J_bs]
 unfold Gf.repP
 by_cases hr:Right l
 ·rw[if_pos (decide_eq_true ((K_lp l).2 hr)),if_pos hr]
  exact⟨b,0,true,w3,rfl,u3,rfl,rfl,hs.upd0 u3,.inl rfl⟩
 ·rw[if_neg (fun h=>hr ((K_lp l).1 (of_decide_eq_true h))),if_neg hr,K_16c hK3 c2,bnd_ok]
  have c2':=c2.drew
  have u3':=u3.drew
  have hbd:(bF (sj l 0*sj l 2+sj l 1*sj l 1) == 0)=decide (Gf.delta l=0):=by rw[Bool.eq_iff_iff,K_og,decide_eq_true_eq];rfl
  dsimp only
  rw[hbd]
  have tail:∀ (w4:World) (ps:Sl) (P:List F),Upd none_ w w4→Bk 170 w4 w1.heap.size (fb [sj l 0,sj l 1,sj l 2,sj l 3])→OwnS 5 w4 ps (fb P)→1≤P.length→P.length≤2→
    ∃ s n v w',(bnd (K_e b w4) fun r_104 w_105=>
 bnd (K_a K K ⟨w1.heap.size,0,none⟩ ps timesV r_104.1 ps ((ps.len:Nat):Int) 0 w_105) fun y_138 w_139=>
 (match y_138 with
 | .norm z_140n=>((prog.built 170 []).bind fun cs_141=>
 bnd (K_2r K r_104.1 w_139.drew) fun r_142 w_143=>
 (eqA prog 170 r_142.1 cs_141).bind fun b_144=>
 some ((r_104.1,((ps.len:Nat):Int),b_144,()),w_143))
 | .ret z_140r=>(some ((z_140r.1,z_140r.2.1,z_140r.2.2.1,()),w_139))))=some ((s,n,v,()),w')∧Upd none_ w w'∧
     (match (match P with
      | [x]=>Gf.fix l x (sj l 0)
      | [x,y]=>(Gf.fix l x (vOf (sj l 0) (sj l 1) x y)).bind fun o=>Gf.fix o y (vOf (sj l 0) (sj l 1) y x)
      | _=>none) with
     | some o=>(v=decide (Right o))∧n=((P.length:Nat):Int)∧BSrc w' s o∧Fresh w.heap.size s
     | none=>v=false):=by
   intro w4 ps P u4 k4 ho hP1 hP2
   have q4:=u4.size
   have hpl:ps.len=P.length:=by rw[ho.len,K_0]
   obtain⟨so,w5,d1,d2,d3,d4⟩:=K_h1 K (hs.upd0 u4) (by omega)
   have k5:=k4.upd0 d3
   have hp5:=(ho.upd0 d3).src (K_14 _)
   have hpne:∀ q,ps.a=some q→¬so.blk=some q.block:=fun q hq e=>by have:=d4 _ e;have:=K_ci ho q hq;omega
   have hgne:¬so.blk=some w1.heap.size:=fun e=>by have:=d4 _ e;have:=k4.lt;omega
   obtain⟨k,hk⟩:∃ k,K=k+4:=⟨K - 4,by omega⟩
   have fin:∀ (w6:World) (o:List F),o.length≤255→OwnS 5 w6 so (fb o)→Upd none_ w w6→∃ s n v w',((prog.built 170 []).bind fun cs_141=>
      bnd (K_2r K so w6.drew) fun r_142 w_143=>(eqA prog 170 r_142.1 cs_141).bind fun b_144=>some ((so,((ps.len:Nat):Int),b_144,()),w_143))=some ((s,n,v,()),w')∧Upd none_ w w'∧
     ((v=decide (Right o))∧n=((P.length:Nat):Int)∧BSrc w' s o∧Fresh w.heap.size s):=by
    intro w6 o hol ho6 u6
    have hs6:=(ho6.upd0 (Upd.refl none_ w6).drew).src (K_14 _)
    obtain⟨w7,e1,e2⟩:=K_uq hK hs6 (by omega)
    refine⟨so,((ps.len:Nat):Int),decide (Right o),w7,?_,(u6.drew).and0 e2,rfl,?_,hs6.upd0 e2,fun j hj=>by have:=d4 j hj;omega⟩
    ·rw[built170,J_bs,e1,bnd_ok,eq170 rfl rfl,J_bs,decide_eq_decide.2 (K_lp o)]
    ·rw[hpl]
   rw[d1,bnd_ok]
   dsimp only
   have hK0:∀ n,n=k+4→K_a K n ⟨w1.heap.size,0,none⟩ ps timesV so ps ((ps.len:Nat):Int) 0 w5=K_a K (k+4) ⟨w1.heap.size,0,none⟩ ps timesV so ps ((P.length:Nat):Int) ((0:Nat):Int) w5:=fun n hn=>by rw[hn,hpl];rfl
   rw[hK0 K hk]
   obtain⟨n1,s1⟩:=K_11r hK k5 hp5 d2 hl (i:=0) (by omega) hP2 (k+3)
   match P,hP1,hP2,hpl,n1,s1,ho,hp5 with
   | [x],_,_,hpl,n1,s1,ho,hp5=>
    have ea:addV [x] (sj l 0) (sj l 1) 0=sj l 0:=rfl
    rw[ea]at n1 s1
    have eg:[x].getD 0 0=x:=rfl
    rw[eg]at n1 s1
    dsimp only
    cases hf:Gf.fix l x (sj l 0) with
    | none=>
     obtain⟨w6,e1,e2⟩:=n1 hf
     exact⟨_,_,_,w6,by rw[e1,bnd_ok],(u4.and0 d3).and0 e2,rfl⟩
    | some o=>
     obtain⟨w6,e1,e2,e3⟩:=s1 o hf
     have u6:Upd none_ w w6:=(u4.and0 d3).trans' e3 fun j hj e=>by have:=d4 j e;omega
     obtain⟨s,n,v,w',f1,f2,f3⟩:=fin w6 o (by rw[K_8a hf];exact hl) e2 u6
     refine⟨s,n,v,w',?_,f2,f3⟩
     rw[e1]
     have:=K_ya (K:=K) (s5:=⟨w1.heap.size,0,none⟩) (ps:=ps) (out:=so) (n:=[x].length) (w:=w6) (k+2)
     have this:K_a K (k+3) ⟨w1.heap.size,0,none⟩ ps timesV so ps (([x].length:Nat):Int) ((0+1:Nat):Int) w6=some (.norm (),w6):=this
     rw[this,bnd_ok]
     exact f1
   | [x,y],_,_,hpl,n1,s1,ho,hp5=>
    have ea:addV [x,y] (sj l 0) (sj l 1) 0=vOf (sj l 0) (sj l 1) x y:=rfl
    rw[ea]at n1 s1
    have eg:[x,y].getD 0 0=x:=rfl
    rw[eg]at n1 s1
    dsimp only
    cases hf:Gf.fix l x (vOf (sj l 0) (sj l 1) x y) with
    | none=>
     obtain⟨w6,e1,e2⟩:=n1 hf
     exact⟨_,_,_,w6,by rw[e1,bnd_ok],(u4.and0 d3).and0 e2,rfl⟩
    | some o=>
     obtain⟨w6,e1,e2,e3⟩:=s1 o hf
     have u56:Upd (fun j=>so.blk=some j) w5 w6:=e3
     have u6:Upd none_ w w6:=(u4.and0 d3).trans' e3 fun j hj e=>by have:=d4 j e;omega
     obtain⟨n2,s2⟩:=K_11r hK (k5.upd u56 hgne) (K_3r hp5 u56 fun q hq _=>hpne q hq) e2 (by rw[K_8a hf];exact hl) (i:=1) (by simp) (by simp) (k+2)
     have ea:addV [x,y] (sj l 0) (sj l 1) 1=vOf (sj l 0) (sj l 1) y x:=rfl
     rw[ea]at n2 s2
     have eg:[x,y].getD 1 0=y:=rfl
     rw[eg]at n2 s2
     rw[J_bs]
     cases hf2:Gf.fix o y (vOf (sj l 0) (sj l 1) y x) with
     | none=>
      obtain⟨w7,f1,f2⟩:=n2 hf2
      exact⟨_,_,_,w7,by rw[e1,f1,bnd_ok],u6.and0 f2,rfl⟩
     | some o2=>
      obtain⟨w7,f1,f2,f3⟩:=s2 o2 hf2
      have u7:Upd none_ w w7:=u6.trans' f3 fun j hj e=>by have:=d4 j e;omega
      obtain⟨s,n,v,w',g1,g2,g3⟩:=fin w7 o2 (by rw[K_8a hf2,K_8a hf];exact hl) f2 u7
      refine⟨s,n,v,w',?_,g2,g3⟩
      rw[e1,f1]
      have:=K_ya (K:=K) (s5:=⟨w1.heap.size,0,none⟩) (ps:=ps) (out:=so) (n:=[x,y].length) (w:=w7) (k+1)
      have this:K_a K (k+2) ⟨w1.heap.size,0,none⟩ ps timesV so ps (([x,y].length:Nat):Int) ((1+1:Nat):Int) w7=some (.norm (),w7):=this
      rw[this,bnd_ok]
      exact g1
  unfold K_70
  by_cases hd:Gf.delta l=0
  ·rw[if_pos (decide_eq_true hd),if_pos hd,K_16u hK3 c2',bnd_ok]
   dsimp only
   by_cases hz:sj l 0=0∨sj l 1=0
   ·rw[if_pos (decide_eq_true hz),if_pos hz,bnd_ok]
    exact⟨_,_,_,_,rfl,u3',rfl⟩
   ·rw[if_neg (fun h=>hz (of_decide_eq_true h)),if_neg hz]
    obtain⟨d0,d1,_,_⟩:=cells4 hK3 c2'
    obtain⟨w4,e1,e2,e3,e4⟩:=K_57 sliceB (.int .u8 (bF (sj l 1*(sj l 0).inv))) rfl w3.drew
    have e2:OwnS 5 w4 ⟨some ⟨w3.drew.heap.size,0,none⟩,1,1⟩ (fb [sj l 1*(sj l 0).inv]):=e2
    obtain⟨s,n,v,w',f1,f2,f3⟩:=tail w4 ⟨some ⟨w3.drew.heap.size,0,none⟩,1,1⟩ _ (u3'.and0 e3) (c2'.upd0 e3) e2 (by simp) (by simp)
    refine⟨s,n,v,w',?_,f2,?_⟩
    ·rw[Nat.mul_one,Nat.mul_one,add_lit,add_lit,Nat.zero_add,Nat.zero_add,d1,J_bs,d0,J_bs,K_p6 hK3,J_bs,e1,bnd_ok,bnd_ok]
     exact f1
    ·dsimp only at f3
     cases hf:Gf.fix l (sj l 1*(sj l 0).inv) (sj l 0) with
     | none=>rw[hf]at f3;exact f3
     | some o=>
      rw[hf]at f3
      dsimp only at f3
      obtain⟨g1,g2,g3,g4⟩:=f3
      rw[J_bs]
      by_cases hro:Right o
      ·rw[if_pos hro]
       exact⟨by rw[g1,decide_eq_true hro],g2,g3,.inr g4⟩
      ·rw[if_neg hro]
       show v=false
       rw[g1,decide_eq_false hro]
  ·rw[if_neg (fun h=>hd (of_decide_eq_true h)),if_neg hd]
   have hs3:=K_171 hK3 c2' (Gf.delta l)
   have hs3:K_3b K ⟨w1.heap.size,0,none⟩ timesV (bF (sj l 0*sj l 2+sj l 1*sj l 1)) w3.drew=some ((bF (Gf.one l),()),w3.drew.drew):=hs3
   have hs4:=K_162 hK3 c2'.drew (Gf.delta l)
   have hs4:K_39 K ⟨w1.heap.size,0,none⟩ timesV (bF (sj l 0*sj l 2+sj l 1*sj l 1)) w3.drew.drew=some ((bF (Gf.two l),()),w3.drew.drew.drew):=hs4
   obtain⟨sp,w4,e1,e2,e3,e4⟩:=K_16k hK3 (b:=b) (s5:=⟨w1.heap.size,0,none⟩) (Gf.one l) (Gf.two l) hl l.length 0 K w3.drew.drew.drew ⟨none,0,0⟩ [] (by omega) (by omega) (by simp) (OwnS.nil _ _)
   have hbl:b.len=l.length:=by rw[hs.len,K_0]
   have e1:K_15 K K b ⟨w1.heap.size,0,none⟩ ⟨none,0,0⟩ timesV (bF (Gf.one l)) (bF (Gf.two l)) ((b.len:Nat):Int) 0 w3.drew.drew.drew=some ((sp,()),w4):=by rw[hbl];exact e1
   rw[hs3,bnd_ok]
   dsimp only
   rw[hs4,bnd_ok]
   dsimp only
   rw[e1,bnd_ok]
   rw[List.nil_append]at e2
   have hspl:sp.len=(Gf.roots l).length:=by rw[e2.len,K_0];rfl
   have u4:Upd none_ w w4:=(u3'.drew.drew).trans' e3 fun j hj e=>by cases e
   have c4:Bk 170 w4 w1.heap.size (fb [sj l 0,sj l 1,sj l 2,sj l 3]):=(c2'.drew.drew).upd e3 fun e=>by cases e
   dsimp only
   by_cases h2:(Gf.roots l).length=2
   ·rw[if_neg (by rw[hspl,h2];decide),bnd_ok]
    obtain⟨x,y,hxy⟩:∃ x y,Gf.roots l=[x,y]:=by
     match hm:Gf.roots l,h2 with
     | [x,y],_=>exact⟨x,y,rfl⟩
    have e2:OwnS 5 w4 sp (fb [x,y]):=by rw[←hxy];exact e2
    obtain⟨s,n,v,w',f1,f2,f3⟩:=tail w4 sp _ u4 c4 e2 (by simp) (by simp)
    refine⟨s,n,v,w',f1,f2,?_⟩
    rw[hxy]
    dsimp only at f3 ⊢
    cases hf:Gf.fix l x (vOf (sj l 0) (sj l 1) x y) with
    | none=>rw[hf]at f3;exact f3
    | some o=>
     rw[hf,J_bs]at f3
     rw[J_bs]
     cases hf2:Gf.fix o y (vOf (sj l 0) (sj l 1) y x) with
     | none=>rw[hf2]at f3;exact f3
     | some o2=>
      rw[hf2]at f3
      dsimp only at f3
      obtain⟨g1,g2,g3,g4⟩:=f3
      rw[J_bs]
      by_cases hro:Right o2
      ·rw[if_pos hro]
       exact⟨by rw[g1,decide_eq_true hro],g2,g3,.inr g4⟩
      ·rw[if_neg hro]
       show v=false
       rw[g1,decide_eq_false hro]
   ·rw[if_pos (by rw[hspl];simp only[bne_iff_ne,ne_eq];omega),bnd_ok]
    refine⟨_,_,_,_,rfl,u4,?_⟩
    obtain⟨R,hR⟩:∃ R,Gf.roots l=R:=⟨_,rfl⟩
    rw[hR]at h2 ⊢
    match R,h2 with
    | [],_=>rfl
    | [_],_=>rfl
    | [_,_],h2=>exact absurd rfl h2
    | _ :: _ :: _ :: _,_=>rfl
end Go.Sh

namespace Go.Sh
open Go.Fw Go.Gf Go.RowKit Go.Proofs.Tryd
theorem K_p7{w:World}{s:Sl}{l:List F}(ho:OwnS 5 w s (fb l))(hl:l.length≤1099511627776)(v:F):
  ∃ w1 s' w',bldS prog 23 1 #[(0,(.int .u8 (bF v)))] w=some (⟨some ⟨w.heap.size,0,none⟩,1,1⟩,w1)∧apd prog 23 23 (.slice s.a s.len s.cap) (.slice (some ⟨w.heap.size,0,none⟩) 1 1) w1=some (s',w')∧OwnS 5 w' s' (fb (l ++ [v]))∧Upd (fun k=>s.blk=some k) w w'∧∀ k,s'.blk=some k→s.blk=some k∨w.heap.size≤k:=by
 obtain⟨w1,a1,a2,a3,a4⟩:=K_57 sliceB (.int .u8 (bF v)) rfl w
 have a2:OwnS 5 w1 ⟨some ⟨w.heap.size,0,none⟩,1,1⟩ (fb [v]):=a2
 have hpl:=ho.len
 rw[K_0]at hpl
 obtain⟨s2,w2,b1,b2,b3,b4,b5⟩:=K_34 sliceB (ho.upd0 a3) (a2.src K_z) (by show (s.len+1)*1≤_;omega)
 rw[←K_5v]at b3
 have q1:=a3.size
 refine⟨w1,s2,w2,a1,b1,b3,(a3.mono (T:=fun k=>s.blk=some k) fun _ _ e=>e.elim).trans' b4 fun _ _ e=>e,fun k hk=>?_⟩
 rcases b5 with e | e
 ·rw[e]at hk;exact .inl hk
 ·rw[e]at hk;have e2:w1.heap.size=k:=Option.some.inj hk;exact .inr (by omega)
end Go.Sh

namespace Go.Sh
open Go.Fw Go.Gf Go.RowKit Go.Proofs.Tryd
abbrev nilF:Sl:=⟨none,0,0⟩
abbrev slF(s:Sl):Value:=.slice s.a s.len s.cap
theorem sliceR:OneSlice prog 67 23 (.slice none 0 0) 24:=⟨by kernel_rfl,⟨t23,by kernel_rfl,by kernel_rfl,by kernel_rfl,by kernel_rfl⟩,by decide,rfl,rfl⟩
structure RowsAt(w:World) (rs:Sl) (ss:List Sl) (R:List (List F)) (m B N:Nat):Prop where
 own:OwnS 23 w rs (ss.map slF)
 len:ss.length=R.length
 row:∀ i,i<R.length→OwnS 5 w (ss.getD i nilF) (fb (R.getD i []))
 rlen:∀ i,i<R.length→(R.getD i []).length=m
 apart:∀ i j,i<R.length→j<R.length→i≠j→∀ k,(ss.getD i nilF).blk=some k→(ss.getD j nilF).blk≠some k
 off:∀ i,i<R.length→∀ k,rs.blk=some k→(ss.getD i nilF).blk≠some k
 low:(∀ k,rs.blk=some k→B≤k∧k<N)∧∀ i,i<R.length→∀ k,(ss.getD i nilF).blk=some k→B≤k∧k<N
theorem RowsAt.upd{w w':World}{rs:Sl}{ss:List Sl}{R:List (List F)}{m B N:Nat}{X:Nat→Prop}(h:RowsAt w rs ss R m B N)(u:Upd X w w')(hn:∀ k,B≤k→k<N→¬X k):RowsAt w' rs ss R m B N:=
 ⟨h.own.upd u fun k hk=>hn k (h.low.1 k hk).1 (h.low.1 k hk).2,h.len,fun i hi=>(h.row i hi).upd u fun k hk=>hn k (h.low.2 i hi k hk).1 (h.low.2 i hi k hk).2,h.rlen,h.apart,h.off,h.low⟩
theorem RowsAt.upd0{w w':World}{rs:Sl}{ss:List Sl}{R:List (List F)}{m B N:Nat}(h:RowsAt w rs ss R m B N)(u:Upd none_ w w'):RowsAt w' rs ss R m B N:=h.upd u fun _ _ _=>id
theorem RowsAt.drew{w:World}{rs:Sl}{ss:List Sl}{R:List (List F)}{m B N:Nat}(h:RowsAt w rs ss R m B N):RowsAt w.drew rs ss R m B N:=h.upd0 (Upd.refl _ _).drew
theorem RowsAt.size{w:World}{rs:Sl}{ss:List Sl}{R:List (List F)}{m B N:Nat}(h:RowsAt w rs ss R m B N):rs.len=R.length:=by rw[h.own.len,List.length_map,h.len]
theorem K_u9(ss:List Sl):∀ v∈ss.map slF,v.oneCell'=true:=fun v hv=>by obtain⟨s,_,rfl⟩:=List.mem_map.1 hv;rfl
theorem RowsAt.ld{w:World}{rs:Sl}{ss:List Sl}{R:List (List F)}{m B N:Nat}(h:RowsAt w rs ss R m B N){i:Nat}(hi:i<R.length):∃ p,rs.a=some p∧ldS (p.add i) w=some (ss.getD i nilF):=by
 have hs:=h.own.src (K_u9 ss)
 have hl:=h.len
 rcases hs.rd with ⟨_,_,e⟩ | ⟨p,e1,e2⟩
 ·have:=congrArg List.length e
  rw[List.length_map]at this
  simp at this;rw[this]at hl;simp at hl;omega
 ·refine⟨p,e1,?_⟩
  have hv:(ss.map slF)[i]? =some (slF (ss.getD i nilF)):=by
   rw[List.getElem?_map,J_ge (by omega),J_gd,J_ge (by omega)];rfl
  have:=e2 i _ hv
  unfold ldS
  rw[this];rfl
theorem RowsAt.cell{w:World}{rs:Sl}{ss:List Sl}{R:List (List F)}{m B N:Nat}(h:RowsAt w rs ss R m B N){i t:Nat}(hi:i<R.length)(ht:t<m):∃ p,(ss.getD i nilF).a=some p∧ldI .u8 (p.add t) w=some (bF (Gf.E R i t)):=
 K_dd (h.row i hi) (by rw[h.rlen i hi];exact ht)
theorem K_sl{α:Type}{l:List α}{c i:Nat}(v d:α)(hc:c<l.length):(l.set c v).getD i d=if i=c then v else l.getD i d:=by
 rw[J_gd]
 by_cases e:i=c
 ·rw[if_pos e,e,List.getElem?_set_self hc];rfl
 ·rw[if_neg e,List.getElem?_set_ne (fun h=>e h.symm),J_gd]
theorem RowsAt.put{w:World}{rs:Sl}{ss:List Sl}{R:List (List F)}{m B N:Nat}(h:RowsAt w rs ss R m B N){i t:Nat}(hi:i<R.length)(ht:t<m)(v:F):
  ∃ p w',(ss.getD i nilF).a=some p∧stC (p.add t) (.int .u8 (bF v)) w=some w'∧RowsAt w' rs ss (R.set i ((R.getD i []).set t v)) m B N∧Upd (fun k=>B≤k∧k<N) w w':=by
 obtain⟨p,w',a,b,c,d⟩:=K_ki (h.row i hi) (i:=t) (by rw[h.rlen i hi];exact ht) v
 have hl:(R.set i ((R.getD i []).set t v)).length=R.length:=List.length_set
 refine⟨p,w',a,b,⟨h.own.upd d fun k hk e=>h.off i hi k hk e,by rw[hl];exact h.len,fun j hj=>?_,fun j hj=>?_,fun x y hx hy=>h.apart x y (by omega) (by omega),fun x hx=>h.off x (by omega),h.low.1,fun x hx=>h.low.2 x (by omega)⟩,d.mono fun k _ e=>h.low.2 i hi k e⟩
 ·rw[hl]at hj
  rw[K_sl _ _ hi]
  by_cases e:j=i
  ·rw[if_pos e,e];exact c
  ·rw[if_neg e]
   exact(h.row j hj).upd d fun k hk e2=>h.apart i j hi hj (fun x=>e x.symm) k e2 hk
 ·rw[hl]at hj
  rw[K_sl _ _ hi]
  by_cases e:j=i
  ·rw[if_pos e,List.length_set];exact h.rlen i hi
  ·rw[if_neg e];exact h.rlen j hj
theorem RowsAt.push{w:World}{rs:Sl}{ss:List Sl}{R:List (List F)}{m B N:Nat}(h:RowsAt w rs ss R m B N)(hR:R.length≤4096){s:Sl}{r:List F}(ho:OwnS 5 w s (fb r))(hr:r.length=m)(hs:∀ k,s.blk=some k→N≤k)(hN:N≤w.heap.size)(hBN:B≤N):
  ∃ w1 rs' w2,bldS prog 67 1 #[(0,slF s)] w=some (⟨some ⟨w.heap.size,0,none⟩,1,1⟩,w1)∧apd prog 67 67 (.slice rs.a rs.len rs.cap) (.slice (some ⟨w.heap.size,0,none⟩) 1 1) w1=some (rs',w2)∧RowsAt w2 rs' (ss ++ [s]) (R ++ [r]) m B w2.heap.size∧Upd (fun k=>B≤k∧k<N) w w2:=by
 obtain⟨w1,a1,a2,a3,a4⟩:=K_57 sliceR (slF s) rfl w
 have hrl:=h.size
 have hsl:=h.len
 obtain⟨rs',w2,b1,b2,b3,b4,b5⟩:=K_34 sliceR (h.own.upd0 a3) (a2.src (fun v hv=>by simp only[List.mem_singleton]at hv;rw[hv];rfl)) (by show (rs.len+1)*24≤_;omega)
 have q1:=a3.size
 have q2:=b4.size
 have u2:Upd (fun k=>rs.blk=some k) w w2:=(a3.mono (T:=fun k=>rs.blk=some k) fun _ _ e=>e.elim).trans' b4 fun _ _ e=>e
 have hrs':∀ k,rs'.blk=some k→rs.blk=some k∨(w.heap.size<k∧k<w2.heap.size):=fun k hk=>by
  rcases b5 with e | e
  ·rw[e]at hk;exact .inl hk
  ·have:=b3.lt hk
   rw[e]at hk;have e2:w1.heap.size=k:=Option.some.inj hk;exact .inr (by omega)
 have hsw:∀ k,s.blk=some k→k<w.heap.size:=fun k hk=>ho.lt hk
 have hg:∀ i,i<R.length→(ss ++ [s]).getD i nilF=ss.getD i nilF:=fun i hi=>by
  rw[J_gd,List.getElem?_append_left (by omega),←J_gd]
 have hgR:∀ i,i<R.length→(R ++ [r]).getD i []=R.getD i []:=fun i hi=>by
  rw[J_gd,List.getElem?_append_left hi,←J_gd]
 have hge:(ss ++ [s]).getD R.length nilF=s:=by
  rw[J_gd,List.getElem?_append_right (by omega),hsl,Nat.sub_self];rfl
 have hgeR:(R ++ [r]).getD R.length []=r:=by
  rw[J_gd,List.getElem?_append_right (by omega),Nat.sub_self];rfl
 have cases_i:∀ i,i<(R ++ [r]).length→i<R.length∨i=R.length:=fun i hi=>by rw[List.length_append]at hi;simp at hi;omega
 have hbm:(ss.map slF ++ [slF s])=(ss ++ [s]).map slF:=by simp
 have b3:OwnS 23 w2 rs' ((ss ++ [s]).map slF):=by rw[←hbm];exact b3
 refine⟨w1,rs',w2,a1,b1,⟨b3,by simp[hsl],fun i hi=>?_,fun i hi=>?_,fun i j hi hj hij k hk=>?_,fun i hi k hk=>?_,fun k hk=>?_,fun i hi k hk=>?_⟩,u2.mono fun k _ e=>h.low.1 k e⟩
 ·rcases cases_i i hi with h1 | rfl
  ·rw[hg i h1,hgR i h1]
   exact(h.row i h1).upd u2 fun k hk e=>h.off i h1 k e hk
  ·rw[hge,hgeR]
   exact ho.upd u2 fun k hk e=>by have:=hs k hk;have:=h.low.1 k e;omega
 ·rcases cases_i i hi with h1 | rfl
  ·rw[hgR i h1];exact h.rlen i h1
  ·rw[hgeR];exact hr
 ·rcases cases_i i hi with h1 | rfl
  ·rw[hg i h1]at hk
   rcases cases_i j hj with h2 | rfl
   ·rw[hg j h2];exact h.apart i j h1 h2 hij k hk
   ·rw[hge]
    intro e
    have:=hs k e
    have:=h.low.2 i h1 k hk
    omega
  ·rw[hge]at hk
   rcases cases_i j hj with h2 | rfl
   ·rw[hg j h2]
    intro e
    have:=hs k hk
    have:=h.low.2 j h2 k e
    omega
   ·exact absurd rfl hij
 ·rcases cases_i i hi with h1 | rfl
  ·rw[hg i h1]
   intro e
   have h3:=h.low.2 i h1 k e
   rcases hrs' k hk with e2 | e2
   ·exact h.off i h1 k e2 e
   ·omega
  ·rw[hge]
   intro e
   have h3:=hs k e
   have:=hsw k e
   rcases hrs' k hk with e2 | e2
   ·have:=h.low.1 k e2;omega
   ·omega
 ·rcases hrs' k hk with e | e
  ·have:=h.low.1 k e;omega
  ·omega
 ·rcases cases_i i hi with h1 | rfl
  ·rw[hg i h1]at hk
   have:=h.low.2 i h1 k hk;omega
  ·rw[hge]at hk
   have:=hs k hk
   have:=hsw k hk
   omega
theorem RowsAt.nil(w:World)(m B:Nat):RowsAt w nilF [] [] m B B:=
 ⟨OwnS.nil _ _,rfl,fun i hi=>by simp at hi,fun i hi=>by simp at hi,fun i j hi=>by simp at hi,fun i hi=>by simp at hi,fun k hk=>(by cases hk),fun i hi=>by simp at hi⟩
theorem RowsAt.wide{w:World}{rs:Sl}{ss:List Sl}{R:List (List F)}{m B N N':Nat}(h:RowsAt w rs ss R m B N)(hN:N≤N'):RowsAt w rs ss R m B N':=
 ⟨h.own,h.len,h.row,h.rlen,h.apart,h.off,fun k hk=>by have:=h.low.1 k hk;omega,fun i hi k hk=>by have:=h.low.2 i hi k hk;omega⟩
structure RowsIn(w:World) (rs:Sl) (ss:List Sl) (R:List (List F)) (m:Nat):Prop where
 own:Fw.Src w rs (ss.map slF)
 len:ss.length=R.length
 row:∀ i,i<R.length→BSrc w (ss.getD i nilF) (R.getD i [])
 rlen:∀ i,i<R.length→(R.getD i []).length=m
theorem RowsAt.into{w:World}{rs:Sl}{ss:List Sl}{R:List (List F)}{m B N:Nat}(h:RowsAt w rs ss R m B N):RowsIn w rs ss R m:=
 ⟨h.own.src (K_u9 ss),h.len,fun i hi=>(h.row i hi).src (K_14 _),h.rlen⟩
theorem RowsIn.upd{w w':World}{rs:Sl}{ss:List Sl}{R:List (List F)}{m:Nat}{X:Nat→Prop}(h:RowsIn w rs ss R m)(u:Upd X w w')(h1:∀ k,X k→¬k<w.heap.size):RowsIn w' rs ss R m:=
 ⟨h.own.upd0 (u.mono fun k hk e=>h1 k e hk),h.len,fun i hi=>(h.row i hi).upd0 (u.mono fun k hk e=>h1 k e hk),h.rlen⟩
theorem RowsIn.upd0{w w':World}{rs:Sl}{ss:List Sl}{R:List (List F)}{m:Nat}(h:RowsIn w rs ss R m)(u:Upd none_ w w'):RowsIn w' rs ss R m:=h.upd u fun _ e=>e.elim
theorem RowsIn.ld{w:World}{rs:Sl}{ss:List Sl}{R:List (List F)}{m:Nat}(h:RowsIn w rs ss R m){i:Nat}(hi:i<R.length):∃ p,rs.a=some p∧ldS (p.add i) w=some (ss.getD i nilF):=by
 have hl:=h.len
 rcases h.own.rd with ⟨_,_,e⟩ | ⟨p,e1,e2⟩
 ·have:=congrArg List.length e
  rw[List.length_map]at this
  simp at this;rw[this]at hl;simp at hl;omega
 ·refine⟨p,e1,?_⟩
  have hv:(ss.map slF)[i]? =some (slF (ss.getD i nilF)):=by
   rw[List.getElem?_map,J_ge (by omega),J_gd,J_ge (by omega)];rfl
  have:=e2 i _ hv
  unfold ldS
  rw[this];rfl
theorem RowsIn.size{w:World}{rs:Sl}{ss:List Sl}{R:List (List F)}{m:Nat}(h:RowsIn w rs ss R m):rs.len=R.length:=by rw[h.own.len,List.length_map,h.len]
end Go.Sh

namespace Go.Sh
open Go.Fw Go.Gf Go.RowKit Go.Proofs.Tryd
def pless(k:Nat)(r q:List F)(f:F):List F:=xorR (r.take k) ((q.take k).map (f* ·)) ++ r.drop k
theorem K_13y:∀ {l m:List F} (k:Nat),l.length=m.length→(xorR l m).getD k 0=l.getD k 0+m.getD k 0:=fun k h=>Gf.getD_xorR k h
theorem K_ql:∀ {a b c d:List F},a.length=c.length→xorR (a ++ b) (c ++ d)=xorR a c ++ xorR b d
 | [],b,[],d,_=>rfl
 | x :: a,b,y :: c,d,h=>by
  show (x+y) :: xorR (a ++ b) (c ++ d)=(x+y) :: (xorR a c ++ xorR b d)
  rw[K_ql (by simpa using h)]
 | [],_,_ :: _,_,h=>by simp at h
 | _ :: _,_,[],_,h=>by simp at h
theorem K_111{k:Nat}{r q:List F}{f:F}(h:r.length=q.length)(hk:k<r.length):(pless k r q f).getD k 0=r.getD k 0:=by
 unfold pless
 have hl:(xorR (r.take k) ((q.take k).map (f* ·))).length=k:=by rw[Gf.xorR_length (by simp;omega)];simp;omega
 rw[J_gd,J_gd,List.getElem?_append_right (by omega),hl,Nat.sub_self,List.getElem?_drop,Nat.add_zero]
theorem K_119{k:Nat}{r q:List F}{f:F}(h:r.length=q.length)(hk:k<r.length):(pless k r q f).set k (r.getD k 0+f*q.getD k 0)=pless (k+1) r q f:=by
 unfold pless
 have hl:(xorR (r.take k) ((q.take k).map (f* ·))).length=k:=by rw[Gf.xorR_length (by simp;omega)];simp;omega
 have h1:r.getD k 0=r[k]:=by rw[J_gd,J_ge hk];rfl
 have h2:q.getD k 0=q[k]'(by omega):=by rw[J_gd,J_ge (by omega)];rfl
 rw[List.set_append_right _ _ (by omega),hl,Nat.sub_self,List.drop_eq_getElem_cons hk,List.set_cons_zero,List.take_succ_eq_append_getElem hk,List.take_succ_eq_append_getElem (show k<q.length by omega),List.map_append,K_ql (by simp;omega),h1,h2]
 simp[xorR]
end Go.Sh

namespace Go.Sh
open Go.Fw Go.Gf Go.RowKit Go.Proofs.Tryd
end Go.Sh

namespace Go.Sh
open Go.Fw Go.Gf Go.RowKit Go.Proofs.Tryd
end Go.Sh

namespace Go.Sh
open Go.Fw Go.Gf Go.RowKit Go.Proofs.Tryd
end Go.Sh

namespace Go.Sh
open Go.Fw Go.Gf Go.RowKit Go.Proofs.Tryd
end Go.Sh

namespace Go.Sh
open Go.Fw Go.Gf Go.RowKit Go.Proofs.Tryd
def letC(k:Nat):Int:=(((str1[k]?).getD 0).toNat:Int)
def letV(k:Nat):Int:=(((str2[k]?).getD 0).toNat:Int)
theorem K_te{k:Nat}(h:k<16):∃ b:UInt8,str1[k]? =some b∧((b.toNat:Nat):Int)=letC k:=by
 have:k<str1.size:=h
 exact⟨str1[k],getElem?_pos str1 k this,by rw[letC,getElem?_pos str1 k this];rfl⟩
theorem K_z3{k:Nat}(h:k<4):∃ b:UInt8,str2[k]? =some b∧((b.toNat:Nat):Int)=letV k:=by
 have:k<str2.size:=h
 exact⟨str2[k],getElem?_pos str2 k this,by rw[letV,getElem?_pos str2 k this];rfl⟩
def five(v:Nat):List Int:=[letC (v / 4096),letV (v / 1024 % 4),letC (v / 64 % 16),letV (v / 16 % 4),letC (v % 16)]
def wordsL(bs:List Nat):Nat→Nat→List Int→List Int
 | 0,_,acc=>acc
 | d+1,i,acc=>if i+1<bs.length then wordsL bs d (i+2) (acc ++ (if 0<i then [32] else []) ++ five (bs.getD i 0*256+bs.getD (i+1) 0)) else acc
theorem K_14r{w:World}{s:Sl}{xs:List Int}(h:RdS .u8 w s xs):b2sQ prog s.a s.len s.cap w=some (bytesOf xs):=by
 have h1:b2s prog s.a s.len s.cap w=some (bytesOf xs,w):=K_172 h
 unfold b2s at h1
 split at h1
 ·rename_i s2 w2 hr
  obtain⟨rfl,rfl⟩:=Prod.mk.inj (Option.some.inj h1)
  unfold b2sQ
  rw[hr]
  dsimp only
  rw[if_pos rfl]
 ·cases h1
theorem K_13z(v:Nat):(five v).length=5:=rfl
theorem K_168{a b:Nat}(ha:a<256)(hb:b<256):bits .or .i64 (IntKind.i64.wrap ((IntKind.i64.wrap (a:Int))*2 ^ 8)) (IntKind.i64.wrap (b:Int))=((a*256+b:Nat):Int):=by
 rw[wn64 (by omega),wn64 (by omega)]
 have e:((a:Nat):Int)*2 ^ 8=((a*2 ^ 8:Nat):Int):=by simp
 rw[e,wn64 (by omega),K_126 (by omega) 8 (by decide) (by omega)]
theorem K_xz(K B:Nat){s:Sl}{acc:List Int}{w:World}(i:Nat)(ho:OwnS 5 w s (ints .u8 acc))(ha:acc.length≤4398046511104)(hB:B≤w.heap.size)(hf:Fresh B s):
  ∃ s' w',K_4z K s (decide ((i:Int) > 0)) w=some ((s',()),w')∧OwnS 5 w' s' (ints .u8 (acc ++ if 0<i then [32] else []))∧Below B w w'∧Fresh B s':=by
 have hl:s.len=acc.length:=by rw[ho.len];simp
 by_cases hi:0<i
 ·obtain⟨w1,h1,o1,u1,z1⟩:=K_4b sliceB (ints .u8 [32]) (by simp[ints,Value.cells]) (by simp) (by simp) w
  obtain⟨s2,w2,h2,l2,o2,u2,b2⟩:=K_34 sliceB (ho.upd0 u1) (o1.src K_z) (by show (s.len+1)*1≤_;omega)
  rw[←K_3i]at o2
  have bl1:Below B w w1:=u1.below hB fun _ _=>id
  refine⟨s2,w2,?_,by simpa[hi] using o2,K_np bl1 u2 (by omega) fun k hk e=>(by have:=hf k e;omega),?_⟩
  ·have hd:decide ((i:Int) > 0)=true:=by simp;omega
   have h1':bldS prog 23 1 #[(0,(.int .u8 32))] w=_:=h1
   have h2':apd prog 23 23 (.slice s.a s.len s.cap) (.slice (some ⟨w.heap.size,0,none⟩) 1 1) w1=_:=h2
   unfold K_4z
   rw[hd,if_pos rfl,h1',bnd_ok]
   show bnd (apd prog 23 23 (.slice s.a s.len s.cap) (.slice (some ⟨w.heap.size,0,none⟩) 1 1) w1) _=_
   rw[h2',bnd_ok]
  ·intro k hk
   rcases b2 with e | e
   ·exact hf k (e ▸ hk)
   ·rw[e]at hk;have:=Option.some.inj hk;omega
 ·refine⟨s,w,?_,by simpa[hi] using ho,Below.refl B w,hf⟩
  have hd:decide ((i:Int) > 0)=false:=by simp;omega
  unfold K_4z
  rw[hd,if_neg (by decide)]
theorem K_10j(K B:Nat){b:Sl}{bs:List Nat}(hb:∀ x∈bs,x<256)(hs:bs.length≤1099511627776):
  ∀ (d i n:Nat) (w:World) (s:Sl) (acc:List Int),bs.length≤i+d→i≤bs.length+1→d+1<n→RdS .u8 w b (bs.map Int.ofNat)→(∀ p,b.a=some p→p.block<B)→OwnS 5 w s (ints .u8 acc)→acc.length≤3*i→B≤w.heap.size→Fresh B s→
   ∃ s' w',K_2j K n b s (i:Int) w=some ((s',()),w')∧OwnS 5 w' s' (ints .u8 (wordsL bs (d+1) i acc))∧Below B w w':=by
 intro d
 induction d using Nat.strongRecOn with
 | _ d ih=>
 intro i n w s acc hd hib hn hr hp ho ha hB hf
 obtain⟨n,rfl⟩:∃ m,n=m+1:=⟨n - 1,by omega⟩
 have hlen:(bs.map Int.ofNat).length=bs.length:=List.length_map ..
 have hw1:IntKind.i64.wrap ((i:Int)+1)=((i+1:Nat):Int):=by rw[w64 (by omega) (by omega)];rfl
 have hw2:IntKind.i64.wrap ((i:Int)+2)=((i+2:Nat):Int):=by rw[w64 (by omega) (by omega)];rfl
 by_cases hc:i+1<bs.length
 ·have i1:i<bs.length:=by omega
  obtain⟨s1,w1,h1,o1,bl1,hf1⟩:=K_xz K B i ho (by omega) hB hf
  have hr1:=(hr.belowB bl1 hp).drew
  obtain⟨p,hpa,hpl⟩:=hr1.ld
  have hne:bs.map Int.ofNat≠[]:=by intro e;have:=congrArg List.length e;simp at this;subst this;simp at i1
  have hA:bs[i]<256:=hb _ (List.getElem_mem i1)
  have hC:bs[i+1]<256:=hb _ (List.getElem_mem hc)
  have l1:ldI .u8 (p.add i) w1.drew=some ((bs[i]:Nat):Int):=by have:=hpl i (by omega);simpa using this
  have l2:ldI .u8 (p.add (i+1)) w1.drew=some ((bs[i+1]:Nat):Int):=by have:=hpl (i+1) (by omega);simpa using this
  have hv:bs.getD i 0*256+bs.getD (i+1) 0=bs[i] *256+bs[i+1]:=by
   rw[J_gd,J_gd,J_ge i1,J_ge hc];rfl
  obtain⟨v,hvv⟩:∃ v,bs[i] *256+bs[i+1]=v:=⟨_,rfl⟩
  rw[hvv]at hv
  have hv16:v<65536:=by omega
  obtain⟨c1,e1,d1⟩:=K_te (k:=v / 2 ^ 12) (by omega)
  obtain⟨c2,e2,d2⟩:=K_z3 (k:=v / 2 ^ 10 % 4) (by omega)
  obtain⟨c3,e3,d3⟩:=K_te (k:=v / 2 ^ 6 % 16) (by omega)
  obtain⟨c4,e4,d4⟩:=K_z3 (k:=v / 2 ^ 4 % 4) (by omega)
  obtain⟨c5,e5,d5⟩:=K_te (k:=v % 16) (by omega)
  obtain⟨w2,h2,o2,u2,z2⟩:=K_4b sliceB (ints .u8 (five v)) (by simp[ints,five,Value.cells]) (by simp[five]) (by simp[five]) w1.drew.drew
  have hl1:s1.len≤acc.length+1:=by rw[o1.len];simp;split <;> simp
  obtain⟨s3,w3,h3,l3,o3,u3,b3⟩:=K_34 sliceB (o1.drew.drew.upd0 u2) (o2.src K_z) (by show (s1.len+5)*1≤_;omega)
  rw[←K_3i]at o3
  have bl2:Below B w w2:=bl1.trans ((Below.refl B w1).drew.drew.trans (u2.below (by have:=bl1.size;exact Nat.le_trans hB this) fun _ _=>id))
  have bl3:Below B w w3:=K_np bl2 u3 (by have:=bl2.size;omega) fun k hk e=>(by have:=hf1 k e;omega)
  have hf3:Fresh B s3:=by
   intro k hk
   rcases b3 with e | e
   ·exact hf1 k (e ▸ hk)
   ·rw[e]at hk;have:=Option.some.inj hk;have:=bl2.size;omega
  obtain⟨d',rfl⟩:∃ m,d=m+1:=⟨d - 1,by omega⟩
  obtain⟨s4,w4,h4,o4,bl4⟩:=ih d' (by omega) (i+2) n w3 s3 (acc ++ (if 0<i then [32] else []) ++ five v) (by omega) (by omega) (by omega) (hr.belowB bl3 hp) hp o3
   (by simp[K_13z];split <;> simp <;> omega) (by have:=bl3.size;omega) hf3
  refine⟨s4,w4,?_,?_,bl3.trans bl4⟩
  ·show K_5j K (K_2j K n) b s (i:Int) w=_
   unfold K_5j
   have k1:decide (((i+1:Nat):Int)<((bs.length:Nat):Int))=true:=by simp;omega
   have k2:(0:Int)≤(i:Int)∧(i:Int)<((bs.length:Nat):Int):=by omega
   have k3:(0:Int)≤((i+1:Nat):Int)∧((i+1:Nat):Int)<((bs.length:Nat):Int):=by omega
   have h2':bldS prog 23 5 #[(0,(.int .u8 (letC (v / 2 ^ 12)))),(1,(.int .u8 (letV (v / 2 ^ 10 % 4)))),(2,(.int .u8 (letC (v / 2 ^ 6 % 16)))),(3,(.int .u8 (letV (v / 2 ^ 4 % 4)))),(4,(.int .u8 (letC (v % 16))))] w1.drew.drew=_:=h2
   have h3':apd prog 23 23 (.slice s1.a s1.len s1.cap) (.slice (some ⟨w1.drew.drew.heap.size,0,none⟩) 5 5) w2=_:=h3
   rw[hw1,hr.len,hlen,k1,if_pos rfl,h1,bnd_ok,hpa hne,J_bs,if_pos k2,J_bs,if_pos k3]
   simp only[J_tn,Nat.mul_one,l1,l2,J_bs,K_168 hA hC,hvv,K_g3]
   rw[K_xo (by omega),K_v5 (by omega),K_xo (by omega),K_v5 (by omega)]
   simp only[J_tn,e1,e2,e3,e4,e5,J_bs,d1,d2,d3,d4,d5,Int.natCast_nonneg,if_true]
   rw[h2',bnd_ok]
   show bnd (apd prog 23 23 (.slice s1.a s1.len s1.cap) (.slice (some ⟨w1.drew.drew.heap.size,0,none⟩) 5 5) w2) _=_
   rw[h3',bnd_ok,hw2,h4]
  ·rw[wordsL,if_pos hc,hv];exact o4
 ·refine⟨s,w,?_,?_,Below.refl B w⟩
  ·show K_5j K (K_2j K n) b s (i:Int) w=_
   unfold K_5j
   rw[hw1,hr.len,hlen,if_neg (by simp;omega)]
  ·simp only[wordsL,hc,if_false];exact ho
def textOf(l:List F):ByteArray:=bytesOf (wordsL (l.map F.n) (l.length+1) 0 [])
theorem K_105(l:List F):l.map bF=(l.map F.n).map Int.ofNat:=by rw[List.map_map];rfl
theorem K_12z{K:Nat}(hK:18446744073709551616≤K){w:World}{b:Sl}{l:List F}(hs:BSrc w b l)(hl:l.length≤1099511627776)(hlt:∀ q,b.a=some q→q.block<w.heap.size):
  ∃ w',K_7t K b w=some ((textOf l,()),w')∧Upd none_ w w':=by
 have hr:RdS .u8 w b ((l.map F.n).map Int.ofNat):=by rw[←K_105];exact hs.rds
 obtain⟨s2,w2,h2,o2,bl2⟩:=K_10j K w.heap.size (bs:=l.map F.n) (fun x hx=>by obtain⟨a,_,rfl⟩:=List.mem_map.1 hx;exact a.lt) (by rw[List.length_map];exact hl) l.length 0 K w ⟨none,0,0⟩ [] (by rw[List.length_map];omega) (by omega) (by omega) hr hlt (OwnS.nil _ _) (by simp) (Nat.le_refl _) (fun k hk=>by cases hk)
 have h2:K_2j K K b ⟨none,0,0⟩ 0 w=some ((s2,()),w2):=h2
 refine⟨w2,?_,Upd.of_below bl2⟩
 unfold K_7t
 rw[h2,bnd_ok]
 dsimp only
 rw[K_14r o2.rd,J_bs]
 rfl
end Go.Sh

namespace Go.Sh
open Go.Fw Go.Gf Go.RowKit Go.Proofs.Tryd
def setC:List Nat:=[98,100,102,103,104,106,107,108,109,110,112,114,115,116,118,122]
def setV:List Nat:=[97,105,111,117]
def IsText(t:ByteArray)(T:List Nat):Prop:=t.size=T.length∧∀ k,k<T.length→∃ b:UInt8,t[k]? =some b∧b.toNat=T.getD k 0
theorem K_yh(t:ByteArray):IsText t (t.data.toList.map UInt8.toNat):=by
 have hs:t.size=(t.data.toList.map UInt8.toNat).length:=by
  rw[List.length_map,Array.length_toList];rfl
 refine⟨hs,fun k hk=>?_⟩
 have hk':k<t.size:=by omega
 refine⟨t[k],getElem?_pos t k hk',?_⟩
 rw[J_gd,J_ge hk]
 simp[ByteArray.getElem_eq_getElem_data]
theorem isC:IsText str1 setC:=⟨rfl,fun k hk=>by
 have key:∀ k,k<16→(str1[k]?).map UInt8.toNat=some (setC.getD k 0):=by decide+kernel
 obtain⟨b,h1,h2⟩:=Option.map_eq_some_iff.1 (key k hk)
 exact⟨b,h1,h2⟩⟩
theorem isV:IsText str2 setV:=⟨rfl,fun k hk=>by
 have key:∀ k,k<4→(str2[k]?).map UInt8.toNat=some (setV.getD k 0):=by decide+kernel
 obtain⟨b,h1,h2⟩:=Option.map_eq_some_iff.1 (key k hk)
 exact⟨b,h1,h2⟩⟩
def plG:List Nat→Nat→Nat→Option Nat
 | [],_,_=>none
 | x :: xs,c,k=>if x=c then some k else plG xs c (k+1)
theorem K_12a:∀ (S:List Nat) (c k j:Nat),plG S c k=some j→j<k+S.length
 | [],_,_,_,h=>by cases h
 | x :: xs,c,k,j,h=>by
  unfold plG at h
  split at h
  ·obtain rfl:=Option.some.inj h;simp
  ·have:=K_12a xs c (k+1) j h
   simp;omega
def setOf(i:Nat):List Nat:=if i % 2=1 then setV else setC
def mulOf(i:Nat):Nat:=if i % 2=1 then 4 else 16
def wvG:List Nat→Nat→Nat→Option Nat
 | [],_,v=>some v
 | c :: cs,i,v=>(plG (setOf i) c 0).bind fun k=>wvG cs (i+1) (v*mulOf i+k)
def worthN(wd:List Nat):Nat:=(wvG wd 0 0).getD 0
def bdW:Nat→Nat
 | 0=>1
 | 1=>16
 | 2=>64
 | 3=>1024
 | 4=>4096
 | _=>65536
theorem K_yr{i v k:Nat}(hi:i<5)(hv:v<bdW i)(hk:k<mulOf i):v*mulOf i+k<bdW (i+1):=by
 match i,hi with
 | 0,_=>simp only[bdW,mulOf]at*;simp at*;omega
 | 1,_=>simp only[bdW,mulOf]at*;simp at*;omega
 | 2,_=>simp only[bdW,mulOf]at*;simp at*;omega
 | 3,_=>simp only[bdW,mulOf]at*;simp at*;omega
 | 4,_=>simp only[bdW,mulOf]at*;simp at*;omega
theorem bd_le(i:Nat):bdW i≤65536:=by
 unfold bdW
 split <;> omega
theorem K_ti(i:Nat):(setOf i).length=mulOf i:=by unfold setOf mulOf;split <;> rfl
theorem K_118{i c k:Nat}(h:plG (setOf i) c 0=some k):k<mulOf i:=by
 have:=K_12a _ _ _ _ h
 rw[K_ti]at this;omega
theorem K_144{K:Nat}{v c bits:Nat}{a9:Sl}{a10 a11:Int}{str:ByteArray}{S:List Nat}(hS:IsText str S)(hb:bits≤10)(hSl:S.length≤2 ^ bits)(hv:v<65536)(hSn:S.length≤256):
  ∀ (d k f:Nat) (w:World),k+d=S.length→d<f→
   K_2g K f (v:Int) (c:Int) str (bits:Int) a9 a10 a11 ((str.size:Nat):Int) (k:Int) w=some (match plG (S.drop k) c k with | some j=>(.ret (((v*2 ^ bits+j:Nat):Int),()),w) | none=>(.norm (),w)):=by
 intro d
 have hsz:=hS.1
 induction d with
 | zero=>
  intro k f w hk hf
  obtain⟨f,rfl⟩:∃ q,f=q+1:=⟨f - 1,by omega⟩
  show K_5b K (K_2g K f) (v:Int) (c:Int) str (bits:Int) a9 a10 a11 ((str.size:Nat):Int) (k:Int) w=_
  unfold K_5b
  rw[if_neg (by simp only[decide_eq_true_eq];omega),List.drop_eq_nil_of_le (by omega)]
  rfl
 | succ d ih=>
  intro k f w hk hf
  obtain⟨f,rfl⟩:∃ q,f=q+1:=⟨f - 1,by omega⟩
  have hkS:k<S.length:=by omega
  obtain⟨b,b1,b2⟩:=hS.2 k hkS
  have e3:IntKind.i64.wrap ((k:Int)+1)=((k+1:Nat):Int):=by rw[w64 (by omega) (by omega)];rfl
  have hg:S.getD k 0=S[k]:=by rw[J_gd,J_ge hkS];rfl
  rw[hg]at b2
  show K_5b K (K_2g K f) (v:Int) (c:Int) str (bits:Int) a9 a10 a11 ((str.size:Nat):Int) (k:Int) w=_
  unfold K_5b
  rw[if_pos (decide_eq_true (show (k:Int)<((str.size:Nat):Int) by omega)),if_pos (Int.natCast_nonneg _),J_tn,b1,J_bs,List.drop_eq_getElem_cons hkS]
  by_cases hc:S[k]=c
  ·have hq:(((b.toNat:Nat):Int) == (c:Int))=true:=by rw[b2,hc];simp
   have hm:min (Int.toNat (bits:Int)) IntKind.i64.bits=bits:=by rw[J_tn];show min bits 64=bits;omega
   have hp:2 ^ bits≤2 ^ 10:=Nat.pow_le_pow_right (by decide) hb
   have hvp:v*2 ^ bits≤65536*2 ^ 10:=Nat.mul_le_mul (by omega) hp
   have e5:((v:Nat):Int)*2 ^ bits=((v*2 ^ bits:Nat):Int):=by simp
   have e6:IntKind.i64.wrap ((v:Int)*2 ^ bits)=((v*2 ^ bits:Nat):Int):=by rw[e5,w64 (by omega) (by omega)]
   rw[if_pos hq,if_pos (Int.natCast_nonneg _),hm,e6,K_126 (by omega) bits hb (by omega)]
   unfold plG
   rw[if_pos hc]
  ·have hq:¬(((b.toNat:Nat):Int) == (c:Int))=true:=by rw[b2,beq_iff_eq];omega
   rw[if_neg hq,e3,ih (k+1) f w (by omega) (by omega)]
   unfold plG
   rw[if_neg hc]
   cases S.drop (k+1) <;> rfl
theorem K_147{K:Nat}(hK:18446744073709551616≤K){a9:Sl}{wd:List Nat}(hw5:wd.length=5)(hwb:∀ c∈wd,c<256):
  ∀ (d i f v:Nat) (w:World),i+d=5→d<f→v<bdW i→RdS .u8 w a9 (wd.map Int.ofNat)→
   K_2d K f (v:Int) a9 ((wd.length:Nat):Int) (i:Int) w=some (match wvG (wd.drop i) i v with | some j=>(.norm (((j:Nat):Int),()),w) | none=>(.ret (0,()),w)):=by
 intro d
 induction d with
 | zero=>
  intro i f v w hi hf hv hr
  obtain⟨f,rfl⟩:∃ q,f=q+1:=⟨f - 1,by omega⟩
  show K_5d K (K_2d K f) (v:Int) a9 ((wd.length:Nat):Int) (i:Int) w=_
  unfold K_5d
  rw[if_neg (by simp only[decide_eq_true_eq];omega),List.drop_eq_nil_of_le (by omega)]
  rfl
 | succ d ih=>
  intro i f v w hi hf hv hr
  obtain⟨f,rfl⟩:∃ q,f=q+1:=⟨f - 1,by omega⟩
  have hiw:i<wd.length:=by omega
  have hlen:a9.len=wd.length:=by rw[hr.len,List.length_map]
  have e3:IntKind.i64.wrap ((i:Int)+1)=((i+1:Nat):Int):=by rw[w64 (by omega) (by omega)];rfl
  obtain⟨p,p1,p2⟩:=hr.ld
  have hne:wd.map Int.ofNat≠[]:=fun e=>by have:=congrArg List.length e;simp at this;rw[this]at hiw;simp at hiw
  have p1:=p1 hne
  have l1:=p2 i (by rw[List.length_map];exact hiw)
  have hge:(wd.map Int.ofNat)[i]'(by rw[List.length_map];exact hiw)=((wd[i]:Nat):Int):=by simp
  rw[hge]at l1
  have c1:(0:Int)≤(i:Int)∧(i:Int)<((a9.len:Nat):Int):=by omega
  have hvb:=bd_le i
  have hl2:=fun {str S bits} (hS:IsText str S) (hb:bits≤10) (hSl:S.length≤2 ^ bits) (hSn:S.length≤256)=>K_144 (K:=K) (v:=v) (c:=wd[i]) (a9:=a9) (a10:=((wd.length:Nat):Int)) (a11:=(i:Int)) hS hb hSl (by omega) hSn S.length 0 K w (by omega) (by omega)
  have hwv:wvG (wd.drop i) i v=(plG (setOf i) wd[i] 0).bind fun k=>wvG (wd.drop (i+1)) (i+1) (v*mulOf i+k):=by
   rw[List.drop_eq_getElem_cons hiw];rfl
  have hs1:∃ (str:ByteArray) (bits:Nat),K_6u K str1 4 ((Int.tmod (i:Int) 2) == 1) w=some ((str,(bits:Int),()),w)∧IsText str (setOf i)∧mulOf i=2 ^ bits∧bits≤10:=by
   have hm:Int.tmod (i:Int) 2=((i % 2:Nat):Int):=rfl
   unfold K_6u setOf mulOf
   rw[hm]
   by_cases h1:i % 2=1
   ·exact⟨str2,2,by rw[if_pos (by rw[h1];rfl)];rfl,by rw[if_pos h1];exact isV,by rw[if_pos h1],by omega⟩
   ·exact⟨str1,4,by rw[if_neg (by rw[beq_iff_eq];omega)];rfl,by rw[if_neg h1];exact isC,by rw[if_neg h1],by omega⟩
  obtain⟨str,bits,s1,s2,s3,s4⟩:=hs1
  have hsl:=K_ti i
  have hmn:mulOf i≤16:=by unfold mulOf;split <;> omega
  have h2:=hl2 s2 s4 (by rw[hsl,s3];exact Nat.le_refl _) (by omega)
  have h2:K_2g K K (v:Int) ((wd[i]:Nat):Int) str (bits:Int) a9 ((wd.length:Nat):Int) (i:Int) ((str.size:Nat):Int) 0 w=_:=h2
  show K_5d K (K_2d K f) (v:Int) a9 ((wd.length:Nat):Int) (i:Int) w=_
  unfold K_5d
  rw[if_pos (decide_eq_true (show (i:Int)<((wd.length:Nat):Int) by omega)),p1,J_bs,if_pos c1,J_tn,Nat.mul_one,l1,J_bs,s1,bnd_ok]
  dsimp only
  rw[h2,List.drop_zero,hwv]
  cases hp:plG (setOf i) wd[i] 0 with
  | none=>rw[bnd_ok];rfl
  | some k=>
   rw[bnd_ok,J_bs]
   dsimp only
   rw[←s3,e3]
   exact ih (i+1) f _ w (by omega) (by omega) (K_yr (by omega) hv (K_118 hp)) hr
theorem K_w7:∀ (wd:List Nat) (i v j:Nat),i+wd.length≤5→v<bdW i→wvG wd i v=some j→j<bdW (i+wd.length)
 | [],i,v,j,_,hv,h=>by obtain rfl:=Option.some.inj h;simpa using hv
 | c :: cs,i,v,j,hi,hv,h=>by
  simp only[List.length_cons]at hi
  have h:((plG (setOf i) c 0).bind fun k=>wvG cs (i+1) (v*mulOf i+k))=some j:=h
  cases hp:plG (setOf i) c 0 with
  | none=>rw[hp]at h;cases h
  | some k=>
   rw[hp,J_bs]at h
   have:=K_w7 cs (i+1) _ j (by omega) (K_yr (by omega) hv (K_118 hp)) h
   simpa[Nat.add_assoc,Nat.add_comm 1] using this
theorem K_11b{wd:List Nat}(h:wd.length=5):worthN wd<65536:=by
 unfold worthN
 cases hw:wvG wd 0 0 with
 | none=>decide
 | some j=>have:=K_w7 wd 0 0 j (by omega) (by decide) hw;rw[h]at this;exact this
theorem K_13b{K:Nat}(hK:18446744073709551616≤K){w:World}{a9:Sl}{wd:List Nat}(hw5:wd.length=5)(hwb:∀ c∈wd,c<256)(hr:RdS .u8 w a9 (wd.map Int.ofNat)):
  K_7m K a9 w=some ((((worthN wd:Nat):Int),()),w):=by
 have hlen:a9.len=wd.length:=by rw[hr.len,List.length_map]
 have h0:=K_147 hK hw5 hwb 5 0 K 0 w (by omega) (by omega) (by decide) hr
 have h0:K_2d K K 0 a9 ((wd.length:Nat):Int) 0 w=_:=h0
 unfold K_7m worthN
 rw[hlen,h0,List.drop_zero]
 cases wvG wd 0 0 with
 | none=>rw[bnd_ok];rfl
 | some j=>rw[bnd_ok];rfl
def worthB(wd:List Nat):List F:=[⟨worthN wd / 256 % 256,Nat.mod_lt _ (by decide)⟩,⟨worthN wd % 256,Nat.mod_lt _ (by decide)⟩]
end Go.Sh

namespace Go.Sh
open Go.Fw Go.Gf Go.RowKit Go.Proofs.Tryd
def gapB(c:Nat):Bool:=c == 32 || c == 9 || c == 10 || c == 13 || c == 45
def lowN(c:Nat):Nat:=if 65≤c∧c≤90 then c+32 else c
def endW(wd:List Nat)(O:List F):Option (List F):=if wd=[] then some O else if wd.length≠5 then none else some (O ++ worthB wd)
def rdP:List Nat→List Nat→List F→Option (List F)
 | [],wd,O=>endW wd O
 | c :: cs,wd,O=>if gapB c=true then(endW wd O).bind fun O'=>rdP cs [] O' else rdP cs (wd ++ [lowN c]) O
structure UW(w:World) (go gw gk B:Nat) (so sw:Sl) (O:List F) (wd:List Nat):Prop where
 bo:Bk 23 w go [slF so]
 bw:Bk 23 w gw [slF sw]
 bk:Bk 4 w gk [.bool true]
 oo:OwnS 5 w so (fb O)
 ow:OwnS 5 w sw (ints .u8 (wd.map Int.ofNat))
 wb:∀ c∈wd,c<256
 sep:∀ k,so.blk=some k→sw.blk≠some k
 d:go≠gw∧go≠gk∧gw≠gk
 so1:∀ k,so.blk=some k→B≤k∧k≠go∧k≠gw∧k≠gk
 sw1:∀ k,sw.blk=some k→B≤k∧k≠go∧k≠gw∧k≠gk
 low:B≤go∧B≤gw∧B≤gk
 lenO:O.length≤1000000
 lenW:wd.length≤1000000
theorem K_h5{e:TypeId}{w:World}{g:Nat}{s:Sl}(b:Bk e w g [slF s]):ldS ⟨g,0,none⟩ w=some s:=b.ldS rfl
theorem K_z2{K:Nat}(hK:18446744073709551616≤K){w:World}{go gw gk B:Nat}{so sw:Sl}{O:List F}{wd:List Nat}(U:UW w go gw gk B so sw O wd)(hO:O.length+2≤1000000):
  match endW wd O with
  | some O'=>∃ so' sw' w',K_29 K (some ⟨gw,0,none⟩) (some ⟨gk,0,none⟩) (some ⟨go,0,none⟩) w=some ((),w')∧UW w' go gw gk B so' sw' O' []∧Upd (fun k=>B≤k) w w'∧O'.length≤O.length+2
  | none=>∃ w',K_29 K (some ⟨gw,0,none⟩) (some ⟨gk,0,none⟩) (some ⟨go,0,none⟩) w=some ((),w')∧Bk 4 w' gk [.bool false]∧Bk 23 w' go [slF so]∧Upd (fun k=>B≤k) w w':=by
 have hl:sw.len=wd.length:=by rw[U.ow.len,K_3,List.length_map]
 obtain⟨d1,d2,d3⟩:=U.d
 unfold endW K_29
 rw[J_bs,K_h5 U.bw,J_bs,hl]
 by_cases h0:wd=[]
 ·rw[if_pos h0,if_pos (by rw[h0];rfl)]
  subst h0
  exact⟨so,sw,w,rfl,U,Upd.refl _ _,by omega⟩
 ·have hpos:0<wd.length:=List.length_pos_iff.2 h0
  rw[if_neg h0,if_neg (show ¬(((wd.length:Nat):Int) == 0)=true by rw[beq_iff_eq];omega),J_bs,K_h5 U.bw,J_bs,hl]
  by_cases h5:wd.length=5
  ·rw[if_neg (show ¬wd.length≠5 by omega),if_neg (show ¬(((wd.length:Nat):Int) != 5)=true by rw[h5];decide),J_bs,K_h5 U.bw,J_bs,K_13b hK h5 U.wb U.ow.rd,bnd_ok,J_bs,K_h5 U.bo,J_bs]
   have hv:=K_11b h5
   obtain⟨w1,a1,a2,a3,a4⟩:=K_4b sliceB (fb (worthB wd)) (fun v hv=>by obtain⟨x,_,rfl⟩:=List.mem_map.1 hv;rfl) (by rw[K_0];simp[worthB]) (by rw[K_0];simp[worthB]) w
   have e1:IntKind.u8.wrap (Int.fdiv ((worthN wd:Nat):Int) (2 ^ 8))=(((worthN wd / 256 % 256:Nat)):Int):=by
    have:Int.fdiv ((worthN wd:Nat):Int) (2 ^ 8)=((worthN wd / 256:Nat):Int):=K_g3 _ 8
    rw[this,IntKind.wrap_u8];rfl
   have e2:IntKind.u8.wrap ((worthN wd:Nat):Int)=((worthN wd % 256:Nat):Int):=by rw[IntKind.wrap_u8];rfl
   have a1:bldS prog 23 2 #[(0,(.int .u8 ((worthN wd / 256 % 256:Nat):Int))),(1,(.int .u8 ((worthN wd % 256:Nat):Int)))] w=some (⟨some ⟨w.heap.size,0,none⟩,2,2⟩,w1):=a1
   have a2:OwnS 5 w1 ⟨some ⟨w.heap.size,0,none⟩,2,2⟩ (fb (worthB wd)):=a2
   have hol:=U.oo.len
   rw[K_0]at hol
   obtain⟨s2,w2,b1,b2,b3,b4,b5⟩:=K_34 sliceB (U.oo.upd0 a3) (a2.src K_z) (by show (so.len+2)*1≤_;omega)
   rw[←K_5v]at b3
   have q1:=a3.size
   have q2:=b4.size
   have u2:Upd (fun k=>so.blk=some k) w w2:=(a3.mono (T:=fun k=>so.blk=some k) fun _ _ e=>e.elim).trans' b4 fun _ _ e=>e
   have hgo:=U.bo.lt
   have hgw:=U.bw.lt
   have hgk:=U.bk.lt
   have hBw:B≤w.heap.size:=by have:=U.low.1;omega
   have hs2:∀ k,s2.blk=some k→(so.blk=some k∨w.heap.size≤k)∧k<w2.heap.size:=fun k hk=>by
    refine⟨?_,b3.lt hk⟩
    rcases b5 with e | e
    ·rw[e]at hk;exact .inl hk
    ·rw[e]at hk;have e2:w1.heap.size=k:=Option.some.inj hk;exact .inr (by omega)
   have hs2':∀ k,s2.blk=some k→B≤k∧k≠go∧k≠gw∧k≠gk:=fun k hk=>by
    rcases(hs2 k hk).1 with e | e
    ·exact U.so1 k e
    ·omega
   have bo2:=U.bo.upd u2 fun e=>(U.so1 _ e).2.1 rfl
   have bw2:=U.bw.upd u2 fun e=>(U.so1 _ e).2.2.1 rfl
   have bk2:=U.bk.upd u2 fun e=>(U.so1 _ e).2.2.2 rfl
   obtain⟨w3,c1,c2,c3⟩:=bo2.stC (i:=0) (by simp) (slF s2)
   obtain⟨w4,f1,f2,f3⟩:=(bw2.upd c3 (fun e=>d1 e.symm)).stC (i:=0) (by simp) (slF nilF)
   have u4:Upd (fun k=>B≤k) w w4:=((u2.mono (T:=fun k=>B≤k) fun k _ e=>(U.so1 k e).1).trans' c3 fun k _ e=>by rw[e];exact U.low.1).trans' f3 fun k _ e=>by rw[e];exact U.low.2.1
   have own4:=(b3.upd c3 fun k hk e=>(hs2' k hk).2.1 e).upd f3 fun k hk e=>(hs2' k hk).2.2.1 e
   refine⟨s2,nilF,w4,?_,⟨?_,?_,?_,own4,OwnS.nil _ _,fun c hc=>(by simp at hc),fun k hk e=>(by cases e),U.d,hs2',fun k hk=>(by cases hk),U.low,by rw[List.length_append];show O.length+2≤_;omega,by simp⟩,u4,by rw[List.length_append];exact Nat.le_refl _⟩
   ·dsimp only
    rw[e1,e2,a1,bnd_ok]
    dsimp only
    rw[b1,bnd_ok,J_bs,c1,J_bs,J_bs]
    have f1:stC ⟨gw,0,none⟩ (.slice none 0 0) w3=some w4:=f1
    rw[f1,J_bs]
   ·exact c2.upd f3 (fun e=>d1 e)
   ·exact f2
   ·exact(bk2.upd c3 (fun e=>d2 e.symm)).upd f3 (fun e=>d3 e.symm)
  ·rw[if_pos (show wd.length≠5 from h5),if_pos (show (((wd.length:Nat):Int) != 5)=true by rw[bne_iff_ne];omega),J_bs]
   obtain⟨w1,a1,a2,a3⟩:=U.bk.stC (i:=0) (by simp) (.bool false)
   exact⟨w1,by rw[a1,J_bs],a2,U.bo.upd a3 (fun e=>d2 e),a3.mono fun k _ e=>by rw[e];exact U.low.2.2⟩
abbrev endV(go gw gk:Nat):Value:=.func (.func 120) #[] #[.pointer (some ⟨gw,0,none⟩),.pointer (some ⟨gk,0,none⟩),.pointer (some ⟨go,0,none⟩)]
theorem K_yx{β:Type}(K:Nat)(go gw gk:Nat)(w:World)(k:Value→World→Option β):
  dyn (tab (K_74 K)) (endV go gw gk) [] w k=bnd (K_29 K (some ⟨gw,0,none⟩) (some ⟨gk,0,none⟩) (some ⟨go,0,none⟩) w) fun _ w'=>k (.tuple #[]) w':=rfl
theorem K_16f(K:Nat)(c:Nat)(w:World):K_4h K (c:Int) ((c:Int) == 32) w=some ((gapB c,()),w):=by
 have e32:((c:Int) == 32)=(c == 32):=by rw[Bool.eq_iff_iff,beq_iff_eq,beq_iff_eq];omega
 have e9:((c:Int) == 9)=(c == 9):=by rw[Bool.eq_iff_iff,beq_iff_eq,beq_iff_eq];omega
 have e10:((c:Int) == 10)=(c == 10):=by rw[Bool.eq_iff_iff,beq_iff_eq,beq_iff_eq];omega
 have e13:((c:Int) == 13)=(c == 13):=by rw[Bool.eq_iff_iff,beq_iff_eq,beq_iff_eq];omega
 have e45:((c:Int) == 45)=(c == 45):=by rw[Bool.eq_iff_iff,beq_iff_eq,beq_iff_eq];omega
 unfold K_4h gapB
 rw[e32,e9,e10,e13,e45]
 cases h1:c == 32 <;> cases h2:c == 9 <;> cases h3:c == 10 <;> cases h4:c == 13 <;> cases h5:c == 45 <;> rfl
theorem K_166(K:Nat)(c:Nat)(w:World):K_4g K (c:Int) w=some ((decide (65≤c∧c≤90),()),w):=by
 unfold K_4g
 by_cases h1:65≤c
 ·rw[if_pos (decide_eq_true (show (c:Int)≥65 by omega))]
  have:decide ((c:Int)≤90)=decide (65≤c∧c≤90):=by rw[decide_eq_decide];omega
  rw[this]
 ·rw[if_neg (by simp only[decide_eq_true_eq];omega),decide_eq_false (show ¬(65≤c∧c≤90) by omega)]
theorem K_xr{w:World}{go gw gk B:Nat}{so sw:Sl}{O:List F}{wd:List Nat}(U:UW w go gw gk B so sw O wd)(hW:wd.length+1≤1000000){c:Nat}(hc:c<256):
  ∃ w1 s2 w2 w3,bldS prog 23 1 #[(0,(.int .u8 (c:Int)))] w=some (⟨some ⟨w.heap.size,0,none⟩,1,1⟩,w1)∧apd prog 23 23 (.slice sw.a sw.len sw.cap) (.slice (some ⟨w.heap.size,0,none⟩) 1 1) w1=some (s2,w2)∧stC ⟨gw,0,none⟩ (.slice s2.a s2.len s2.cap) w2=some w3∧UW w3 go gw gk B so s2 O (wd ++ [c])∧Upd (fun k=>B≤k) w w3:=by
 obtain⟨d1,d2,d3⟩:=U.d
 obtain⟨w1,a1,a2,a3,a4⟩:=K_57 sliceB (.int .u8 (c:Int)) rfl w
 have a2:OwnS 5 w1 ⟨some ⟨w.heap.size,0,none⟩,1,1⟩ (ints .u8 [(c:Int)]):=a2
 have hwl:=U.ow.len
 rw[K_3,List.length_map]at hwl
 obtain⟨s2,w2,b1,b2,b3,b4,b5⟩:=K_34 sliceB (U.ow.upd0 a3) (a2.src K_z) (by show (sw.len+1)*1≤_;omega)
 rw[←K_3i]at b3
 have em:wd.map Int.ofNat ++ [(c:Int)]=(wd ++ [c]).map Int.ofNat:=by rw[List.map_append];rfl
 rw[em]at b3
 have q1:=a3.size
 have q2:=b4.size
 have u2:Upd (fun k=>sw.blk=some k) w w2:=(a3.mono (T:=fun k=>sw.blk=some k) fun _ _ e=>e.elim).trans' b4 fun _ _ e=>e
 have hgo:=U.bo.lt
 have hgw:=U.bw.lt
 have hgk:=U.bk.lt
 have hs2:∀ k,s2.blk=some k→sw.blk=some k∨w.heap.size≤k:=fun k hk=>by
  rcases b5 with e | e
  ·rw[e]at hk;exact .inl hk
  ·rw[e]at hk;have e2:w1.heap.size=k:=Option.some.inj hk;exact .inr (by omega)
 have hBw:B≤w.heap.size:=by have:=U.low.1;omega
 have hs2':∀ k,s2.blk=some k→B≤k∧k≠go∧k≠gw∧k≠gk:=fun k hk=>by
  rcases hs2 k hk with e | e
  ·exact U.sw1 k e
  ·omega
 have bo2:=U.bo.upd u2 fun e=>(U.sw1 _ e).2.1 rfl
 have bw2:=U.bw.upd u2 fun e=>(U.sw1 _ e).2.2.1 rfl
 have bk2:=U.bk.upd u2 fun e=>(U.sw1 _ e).2.2.2 rfl
 have oo2:=U.oo.upd u2 fun k hk e=>U.sep k hk e
 obtain⟨w3,c1,c2,c3⟩:=bw2.stC (i:=0) (by simp) (slF s2)
 refine⟨w1,s2,w2,w3,a1,b1,c1,⟨bo2.upd c3 (fun e=>d1 e),c2,bk2.upd c3 (fun e=>d3 e.symm),oo2.upd c3 fun k hk e=>(U.so1 k hk).2.2.1 e,b3.upd c3 fun k hk e=>(hs2' k hk).2.2.1 e,fun x hx=>?_,fun k hk e=>?_,U.d,U.so1,hs2',U.low,U.lenO,by rw[List.length_append];exact hW⟩,(u2.mono (T:=fun k=>B≤k) fun k _ e=>(U.sw1 k e).1).trans' c3 fun k _ e=>by rw[e];exact U.low.2.1⟩
 ·rcases List.mem_append.1 hx with h | h
  ·exact U.wb x h
  ·simp only[List.mem_singleton]at h;omega
 ·rcases hs2 k e with e2 | e2
  ·exact U.sep k hk e2
  ·have:=U.oo.lt hk;omega
theorem K_16r{c:Nat}(h:c<256):lowN c<256:=by unfold lowN;split <;> omega
theorem K_xy{K:Nat}(hK:18446744073709551616≤K){t:ByteArray}{T:List Nat}(hT:IsText t T)(hTb:∀ c∈T,c<256)(hTl:T.length≤1024){go gw gk B:Nat}:
  ∀ (d i f:Nat) (w:World) (so sw:Sl) (O:List F) (wd:List Nat),i+d=T.length→d<f→UW w go gw gk B so sw O wd→O.length≤2*i→wd.length≤i→
   (∃ w',K_n K f t ⟨go,0,none⟩ ⟨gw,0,none⟩ ⟨gk,0,none⟩ (endV go gw gk) ((t.size:Nat):Int) (i:Int) w=some (.ret (nilF,false,()),w')∧Upd (fun k=>B≤k) w w'∧rdP (T.drop i) wd O=none)∨
   (∃ so' sw' O' wd' w',K_n K f t ⟨go,0,none⟩ ⟨gw,0,none⟩ ⟨gk,0,none⟩ (endV go gw gk) ((t.size:Nat):Int) (i:Int) w=some (.norm (),w')∧UW w' go gw gk B so' sw' O' wd'∧Upd (fun k=>B≤k) w w'∧rdP (T.drop i) wd O=endW wd' O'∧O'.length≤2*T.length):=by
 have hsz:=hT.1
 intro d
 induction d with
 | zero=>
  intro i f w so sw O wd hi hf U hO hW
  obtain⟨f,rfl⟩:∃ q,f=q+1:=⟨f - 1,by omega⟩
  right
  refine⟨so,sw,O,wd,w,?_,U,Upd.refl _ _,by rw[List.drop_eq_nil_of_le (by omega)];rfl,by omega⟩
  show K_3t K (K_n K f) t ⟨go,0,none⟩ ⟨gw,0,none⟩ ⟨gk,0,none⟩ (endV go gw gk) ((t.size:Nat):Int) (i:Int) w=_
  unfold K_3t
  rw[if_neg (by simp only[decide_eq_true_eq];omega)]
 | succ d ih=>
  intro i f w so sw O wd hi hf U hO hW
  obtain⟨f,rfl⟩:∃ q,f=q+1:=⟨f - 1,by omega⟩
  have hiT:i<T.length:=by omega
  obtain⟨b,b1,b2⟩:=hT.2 i hiT
  have hg:T.getD i 0=T[i]:=by rw[J_gd,J_ge hiT];rfl
  rw[hg]at b2
  have hc256:=hTb _ (List.getElem_mem hiT)
  have e3:IntKind.i64.wrap ((i:Int)+1)=((i+1:Nat):Int):=by rw[w64 (by omega) (by omega)];rfl
  have hun:K_n K (f+1) t ⟨go,0,none⟩ ⟨gw,0,none⟩ ⟨gk,0,none⟩ (endV go gw gk) ((t.size:Nat):Int) (i:Int) w=K_3t K (K_n K f) t ⟨go,0,none⟩ ⟨gw,0,none⟩ ⟨gk,0,none⟩ (endV go gw gk) ((t.size:Nat):Int) (i:Int) w:=rfl
  have hrd:rdP (T.drop i) wd O=if gapB T[i]=true then(endW wd O).bind fun O'=>rdP (T.drop (i+1)) [] O' else rdP (T.drop (i+1)) (wd ++ [lowN T[i]]) O:=by
   rw[List.drop_eq_getElem_cons hiT];rfl
  rw[hun,hrd]
  unfold K_3t K_6v
  rw[if_pos (decide_eq_true (show (i:Int)<((t.size:Nat):Int) by omega)),if_pos (Int.natCast_nonneg _),J_tn,b1,J_bs,b2,K_16f,bnd_ok]
  dsimp only
  by_cases hgp:gapB T[i]=true
  ·rw[if_pos hgp,if_pos hgp,K_yx]
   have he:=K_z2 hK U (by omega)
   cases hE:endW wd O with
   | none=>
    rw[hE]at he
    obtain⟨w1,x1,x2,x3,x4⟩:=he
    left
    refine⟨w1,?_,x4,rfl⟩
    rw[x1,bnd_ok,bnd_ok,x2.ldB (i:=0) rfl,J_bs,if_pos (by decide)]
   | some O'=>
    rw[hE]at he
    obtain⟨so',sw',w1,x1,x2,x3,x4⟩:=he
    rw[x1,bnd_ok,bnd_ok,x2.bk.ldB (i:=0) rfl,J_bs,if_neg (by decide),J_bs,e3]
    rcases ih (i+1) f w1 so' sw' O' [] (by omega) (by omega) x2 (by omega) (by simp) with ⟨w',y1,y2,y3⟩ | ⟨a,b',c,dd,w',y1,y2,y3,y4,y5⟩
    ·exact .inl ⟨w',y1,x3.trans' y2 fun _ _ e=>e,y3⟩
    ·exact .inr ⟨a,b',c,dd,w',y1,y2,x3.trans' y3 fun _ _ e=>e,y4,y5⟩
  ·rw[if_neg hgp,if_neg hgp,K_166,bnd_ok]
   dsimp only
   obtain⟨w1,s2,w2,w3,p1,p2,p3,p4,p5⟩:=K_xr U (by omega) (K_16r hc256)
   have hld:=K_h5 U.bw
   have run:(if decide (65≤T[i]∧T[i]≤90)=true then((ldS ⟨gw,0,none⟩ w).bind fun v_15=>
     bnd (bldS prog 23 1 #[(0,(.int .u8 (IntKind.u8.wrap (((T[i]:Nat):Int)+32))))] w) fun s_16 w_17=>
     bnd (apd prog 23 23 (.slice v_15.a v_15.len v_15.cap) (.slice s_16.a s_16.len s_16.cap) w_17) fun s_18 w_19=>
     (stC ⟨gw,0,none⟩ (.slice s_18.a s_18.len s_18.cap) w_19).bind fun w_20=>
     some (((),w_20):Unit×World)) else((ldS ⟨gw,0,none⟩ w).bind fun v_21=>
     bnd (bldS prog 23 1 #[(0,(.int .u8 ((T[i]:Nat):Int)))] w) fun s_22 w_23=>
     bnd (apd prog 23 23 (.slice v_21.a v_21.len v_21.cap) (.slice s_22.a s_22.len s_22.cap) w_23) fun s_24 w_25=>
     (stC ⟨gw,0,none⟩ (.slice s_24.a s_24.len s_24.cap) w_25).bind fun w_26=>
     some (((),w_26):Unit×World)))=some ((),w3):=by
    unfold lowN at p1
    by_cases hu:65≤T[i]∧T[i]≤90
    ·rw[if_pos hu]at p1
     have e32:IntKind.u8.wrap (((T[i]:Nat):Int)+32)=((T[i] +32:Nat):Int):=by rw[IntKind.wrap_u8];omega
     rw[if_pos (decide_eq_true hu),hld,J_bs,e32,p1,bnd_ok]
     dsimp only
     rw[p2,bnd_ok,p3,J_bs]
    ·rw[if_neg hu]at p1
     rw[if_neg (fun h=>hu (of_decide_eq_true h)),hld,J_bs,p1,bnd_ok]
     dsimp only
     rw[p2,bnd_ok,p3,J_bs]
   rw[run,bnd_ok,p4.bk.ldB (i:=0) rfl,J_bs,if_neg (by decide),e3]
   rcases ih (i+1) f w3 so s2 O _ (by omega) (by omega) p4 (by omega) (by rw[List.length_append];show wd.length+1≤_;omega) with ⟨w',y1,y2,y3⟩ | ⟨a,b',c,dd,w',y1,y2,y3,y4,y5⟩
   ·exact .inl ⟨w',y1,p5.trans' y2 fun _ _ e=>e,y3⟩
   ·exact .inr ⟨a,b',c,dd,w',y1,y2,p5.trans' y3 fun _ _ e=>e,y4,y5⟩
theorem K_xu{K:Nat}(hK:18446744073709551616≤K)(w:World){t:ByteArray}{T:List Nat}(hT:IsText t T)(hTb:∀ c∈T,c<256)(hTl:T.length≤1024):
  ∃ s v w',K_4x K t w=some ((s,v,()),w')∧Upd none_ w w'∧(match rdP T [] [] with | some l=>v=true∧OwnS 5 w' s (fb l)∧Fresh w.heap.size s∧l.length≤2*T.length+2 | none=>v=false):=by
 obtain⟨w1,a1,a2,a3,a4⟩:=K_g z23 23 w
 obtain⟨w2,b1,b2,b3,b4⟩:=K_g z23 23 w1
 obtain⟨w3,c1,c2,c3,c4⟩:=K_g z4 4 w2
 have a2:Bk 23 w1 w.heap.size [slF nilF]:=a2
 have b2:Bk 23 w2 w1.heap.size [slF nilF]:=b2
 have c2:Bk 4 w3 w2.heap.size [.bool false]:=c2
 obtain⟨w4,d1,d2,d3⟩:=c2.stC (i:=0) (by simp) (.bool true)
 have d2:Bk 4 w4 w2.heap.size [.bool true]:=d2
 have u4:Upd none_ w w4:=((a3.and0 b3).and0 c3).trans' d3 fun k hk e=>by omega
 have hgo:=((a2.upd0 b3).upd0 c3).upd d3 (by omega)
 have hgw:=(b2.upd0 c3).upd d3 (by omega)
 have U:UW w4 w.heap.size w1.heap.size w2.heap.size w.heap.size nilF nilF [] []:=⟨hgo,hgw,d2,OwnS.nil _ _,OwnS.nil _ _,fun c hc=>(by simp at hc),fun k hk=>(by cases hk),⟨by omega,by omega,by omega⟩,fun k hk=>(by cases hk),fun k hk=>(by cases hk),⟨Nat.le_refl _,by omega,by omega⟩,by simp,by simp⟩
 have hrun:=K_xy hK hT hTb hTl T.length 0 K w4 nilF nilF [] [] (by omega) (by omega) U (by simp) (by simp)
 rw[List.drop_zero]at hrun
 unfold K_4x
 rw[a1,bnd_ok,b1,bnd_ok,c1,bnd_ok,d1,J_bs]
 rcases hrun with ⟨w5,y1,y2,y3⟩ | ⟨so,sw,O,wd,w5,y1,y2,y3,y4,y5⟩
 ·have y1:K_n K K t ⟨w.heap.size,0,none⟩ ⟨w1.heap.size,0,none⟩ ⟨w2.heap.size,0,none⟩ (.func (.func 120) #[] #[.pointer (some ⟨w1.heap.size,0,none⟩),.pointer (some ⟨w2.heap.size,0,none⟩),.pointer (some ⟨w.heap.size,0,none⟩)]) ((t.size:Nat):Int) 0 w4=_:=y1
  rw[y1,bnd_ok,y3]
  exact⟨nilF,false,w5,rfl,u4.trans' y2 fun k hk e=>by omega,rfl⟩
 ·have y1:K_n K K t ⟨w.heap.size,0,none⟩ ⟨w1.heap.size,0,none⟩ ⟨w2.heap.size,0,none⟩ (.func (.func 120) #[] #[.pointer (some ⟨w1.heap.size,0,none⟩),.pointer (some ⟨w2.heap.size,0,none⟩),.pointer (some ⟨w.heap.size,0,none⟩)]) ((t.size:Nat):Int) 0 w4=_:=y1
  have u5:Upd none_ w w5:=u4.trans' y3 fun k hk e=>by omega
  have hd:=K_yx (β:=(Sl×Bool×Unit)×World) K w.heap.size w1.heap.size w2.heap.size w5
  have he:=K_z2 hK y2 (by omega)
  rw[y1,bnd_ok,y4]
  dsimp only
  rw[hd]
  cases hE:endW wd O with
  | none=>
   rw[hE]at he
   obtain⟨w6,x1,x2,x3,x4⟩:=he
   rw[x1,bnd_ok]
   refine⟨so,false,w6.drew,?_,(u5.trans' x4 fun k hk e=>by omega).drew,rfl⟩
   rw[K_h5 x3.drew,J_bs,x2.drew.ldB (i:=0) rfl,J_bs]
  | some O'=>
   rw[hE]at he
   obtain⟨so',sw',w6,x1,x2,x3,x4⟩:=he
   rw[x1,bnd_ok]
   refine⟨so',true,w6.drew,?_,(u5.trans' x3 fun k hk e=>by omega).drew,rfl,x2.oo.upd0 (Upd.refl none_ w6).drew,fun k hk=>(x2.so1 k hk).1,by omega⟩
   rw[K_h5 x2.bo.drew,J_bs,x2.bk.drew.ldB (i:=0) rfl,J_bs]
end Go.Sh

namespace Go.Sh
open Go.Fw Go.Gf Go.RowKit Go.Proofs.Tryd
end Go.Sh

namespace Go.Sh
open Go.Fw Go.Gf Go.RowKit Go.Proofs.Tryd
def bAt(c:List F)(i:Nat):Nat:=(c.getD i 0).n
theorem K_c9(c:List F)(i:Nat):bAt c i<256:=(c.getD i 0).lt
def setN(c:List F):Nat:=bAt c 0*256+bAt c 1
def shL(s need idx size:Nat):List Value:=[.int .u16 (s:Int),.int .i64 (need:Int),.int .i64 (idx:Int),.int .i64 (size:Int)]
def fitB(c:List F):Bool:=decide (1≤bAt c 2∧bAt c 2≤16∧1≤bAt c 3∧1≤bAt c 4∧bAt c 4≤64∧c.length=5+(bAt c 4+4)+(5+(bAt c 4+4)) % 2+4∧((5+(bAt c 4+4)) % 2=1→bAt c (5+(bAt c 4+4))=0))
def valsP(c:List F):List F:=(c.drop 5).take (bAt c 4+4)
theorem K_w2(c:List F):fitB c=true↔(1≤bAt c 2∧bAt c 2≤16∧1≤bAt c 3∧1≤bAt c 4∧bAt c 4≤64∧c.length=5+(bAt c 4+4)+(5+(bAt c 4+4)) % 2+4∧((5+(bAt c 4+4)) % 2=1→bAt c (5+(bAt c 4+4))=0)):=by unfold fitB;rw[decide_eq_true_eq]
theorem K_m0{c:List F}(h:fitB c=true):(valsP c).length=bAt c 4+4:=by
 obtain⟨_,_,_,_,_,h6,_⟩:=(K_w2 c).1 h
 unfold valsP
 rw[List.length_take,List.length_drop];omega
theorem built84(a b c d:Int):prog.built 84 [(0,(.int .u16 a)),(1,(.int .i64 b)),(2,(.int .i64 c)),(3,(.int .i64 d))]=some #[.int .u16 a,.int .i64 b,.int .i64 c,.int .i64 d]:=by kernel_rfl
theorem built102(a b c d:Int):prog.built 102 [(0,(.agg #[.int .u16 a,.int .i64 b,.int .i64 c,.int .i64 d]))]=some #[.int .u16 a,.int .i64 b,.int .i64 c,.int .i64 d,.slice none 0 0]:=by kernel_rfl
theorem built102z:prog.built 102 []=some (shL 0 0 0 0 ++ [slF nilF]).toArray:=by kernel_rfl
theorem K_dc:z102=(shL 0 0 0 0 ++ [slF nilF]).toArray:=by kernel_rfl
theorem K_dm{w:World}{b:Sl}{c:List F}(hs:BSrc w b c){i:Nat}(hi:i<c.length):∃ p,b.a=some p∧ldI .u8 (p.add i) w=some ((bAt c i:Nat):Int):=by
 obtain⟨p,p1,p2⟩:=K_2b hs hi
 refine⟨p,p1,?_⟩
 rw[p2]
 unfold bAt bF
 rw[J_gd,J_ge hi];rfl
theorem K_o2(n:Int):IntKind.u16.wrap n=n % 65536:=by simp[IntKind.wrap,IntKind.bits,IntKind.signed]
theorem K_15x{a b:Nat}(ha:a<256)(hb:b<256):bits .or .u16 (IntKind.u16.wrap ((IntKind.u16.wrap (a:Int))*2 ^ 8)) (IntKind.u16.wrap (b:Int))=((a*256+b:Nat):Int):=by
 have e1:IntKind.u16.wrap (a:Int)=(a:Int):=by rw[K_o2];omega
 have e2:IntKind.u16.wrap (b:Int)=(b:Int):=by rw[K_o2];omega
 have e3:(a:Int)*2 ^ 8=((a*256:Nat):Int):=by simp
 have e4:IntKind.u16.wrap ((a*256:Nat):Int)=((a*256:Nat):Int):=by rw[K_o2];omega
 rw[e1,e2,e3,e4,(K_7x (k:=.u16) rfl (show a*256<2 ^ 16 by omega) (show b<2 ^ 16 by omega)).2.1]
 have:=Nat.two_pow_add_eq_or_of_lt (i:=8) (show b<2 ^ 8 by omega) a
 rw[Nat.mul_comm]at this
 rw[show a*256=a*2 ^ 8 from rfl,←this]
theorem K_tt{a:Nat}(ha:a<256):IntKind.i64.wrap (a:Int)=(a:Int):=w64 (by omega) (by omega)
theorem K_z7(s n i z:Nat):∀ v∈shL s n i z,v.oneCell'=true:=fun v hv=>by
 simp only[shL,List.mem_cons,List.not_mem_nil,or_false]at hv
 rcases hv with rfl | rfl | rfl | rfl <;> rfl
theorem K_9l(s n i z:Nat)(sv:Sl):∀ v∈shL s n i z ++ [slF sv],v.oneCell'=true:=fun v hv=>by
 rcases List.mem_append.1 hv with h | h
 ·exact K_z7 s n i z v h
 ·simp only[List.mem_singleton]at h;rw[h];rfl
theorem K_15u{w:World}{b:Sl}{c:List F}(hs:BSrc w b c)(h5:5≤c.length):
  ∃ g w',K_7k b w=some ((⟨g,0,none⟩,()),w')∧Bk 102 w' g (shL (setN c) (bAt c 2) (bAt c 3) (bAt c 4) ++ [slF nilF])∧Upd none_ w w'∧w.heap.size≤g:=by
 have hbl:b.len=c.length:=by rw[hs.len,K_0]
 have hd:=hs.upd0 (Upd.refl none_ w).drew
 obtain⟨p,p1,p2⟩:=K_dm hd (i:=0) (by omega)
 obtain⟨p',q1,q2⟩:=K_dm hd (i:=1) (by omega)
 obtain rfl:p'=p:=Option.some.inj (q1.symm.trans p1)
 obtain⟨p'',r1,r2⟩:=K_dm hd (i:=2) (by omega)
 obtain rfl:p''=p':=Option.some.inj (r1.symm.trans p1)
 obtain⟨p''',s1,s2⟩:=K_dm hd (i:=3) (by omega)
 obtain rfl:p'''=p'':=Option.some.inj (s1.symm.trans p1)
 obtain⟨p4,t1,t2⟩:=K_dm hd (i:=4) (by omega)
 obtain rfl:p4=p''':=Option.some.inj (t1.symm.trans p1)
 obtain⟨w1,a1,a2,a3,a4⟩:=K_g z102 102 w.drew
 have a2:Bk 102 w1 w.heap.size (shL 0 0 0 0 ++ [slF nilF]):=by rw[K_dc]at a2;exact a2
 have a1:newB z102 102 w.drew=some (⟨w.heap.size,0,none⟩,w1):=a1
 have hd1:=hd.upd0 a3
 obtain⟨w2,b1,b2,b3⟩:=a2.stA (o:=0) (vs:=(shL (setN c) (bAt c 2) (bAt c 3) (bAt c 4) ++ [slF nilF]).toArray) (by simp[shL]) (fun v hv=>K_9l _ _ _ _ _ v hv)
 have b2:Bk 102 w2 w.heap.size (shL (setN c) (bAt c 2) (bAt c 3) (bAt c 4) ++ [slF nilF]):=b2
 have hlt:=K_bu hs
 have hcne:c≠[]:=fun e=>by rw[e]at h5;simp at h5
 have hd2:BSrc w2 b c:=K_3r hd1 b3 fun q hq _=>by have:=hlt q hq hcne;omega
 have L:∀ {W:World},BSrc W b c→ldI .u8 (p4.add 0) W=some ((bAt c 0:Nat):Int)∧ldI .u8 (p4.add 1) W=some ((bAt c 1:Nat):Int)∧ldI .u8 (p4.add 2) W=some ((bAt c 2:Nat):Int)∧ldI .u8 (p4.add 3) W=some ((bAt c 3:Nat):Int)∧ldI .u8 (p4.add 4) W=some ((bAt c 4:Nat):Int):=fun hW=>by
  have get:∀ i,i<c.length→ldI .u8 (p4.add i) _=some ((bAt c i:Nat):Int):=fun i hi=>by
   obtain⟨p0,x1,x2⟩:=K_dm hW hi
   obtain rfl:p0=p4:=Option.some.inj (x1.symm.trans p1)
   exact x2
  exact⟨get 0 (by omega),get 1 (by omega),get 2 (by omega),get 3 (by omega),get 4 (by omega)⟩
 obtain⟨x0,x1,x2,x3,x4⟩:=L hd
 obtain⟨y0,y1,y2,y3,y4⟩:=L hd1
 obtain⟨v0,v1,v2,v3,v4⟩:=L hd2
 have c0:(0:Int)≤0∧(0:Int)<((b.len:Nat):Int):=by omega
 have c1:(0:Int)≤1∧(1:Int)<((b.len:Nat):Int):=by omega
 have c2:(0:Int)≤2∧(2:Int)<((b.len:Nat):Int):=by omega
 have c3:(0:Int)≤3∧(3:Int)<((b.len:Nat):Int):=by omega
 have c4:(0:Int)≤4∧(4:Int)<((b.len:Nat):Int):=by omega
 have hset:=K_15x (K_c9 c 0) (K_c9 c 1)
 refine⟨w.heap.size,w2,?_,b2,((Upd.refl none_ w).drew.and0 a3).trans' b3 fun k hk e=>by omega,Nat.le_refl _⟩
 unfold K_7k
 rw[p1,J_bs,if_pos c0,J_bs,if_pos c1,J_bs,if_pos c2,J_bs,if_pos c3,J_bs,if_pos c4]
 simp only[Nat.mul_one]
 rw[x0,J_bs,x1,J_bs,x2,J_bs,x3,J_bs,x4,J_bs,hset,K_tt (K_c9 c 2),K_tt (K_c9 c 3),K_tt (K_c9 c 4),built84,J_bs,built102,J_bs,a1,bnd_ok,y4,J_bs,K_7,y3,J_bs,K_7,y2,J_bs,K_7,y1,J_bs,K_7,y0,J_bs,K_7,if_pos (by rfl)]
 have b1:stA ⟨w.heap.size,0,none⟩ #[.int .u16 ((bAt c 0*256+bAt c 1:Nat):Int),.int .i64 ((bAt c 2:Nat):Int),.int .i64 ((bAt c 3:Nat):Int),.int .i64 ((bAt c 4:Nat):Int),.slice none 0 0] w1=some w2:=b1
 rw[b1,J_bs,v4,J_bs,K_7,v3,J_bs,K_7,v2,J_bs,K_7,v1,J_bs,K_7,v0,J_bs,K_7]
end Go.Sh

namespace Go.Sh
open Go.Fw Go.Gf Go.RowKit Go.Proofs.Tryd
theorem K_wd{e:TypeId}{w:World}{g:Nat}{s n i z:Nat}{tl:List Value}(b:Bk e w g (shL s n i z ++ tl)):
  ldI .u16 (⟨g,0,none⟩:Addr) w=some (s:Int)∧ldI .i64 (⟨g,1,none⟩:Addr) w=some (n:Int)∧ldI .i64 (⟨g,2,none⟩:Addr) w=some (i:Int)∧ldI .i64 (⟨g,3,none⟩:Addr) w=some (z:Int):=
 ⟨b.ldI rfl,b.ldI rfl,b.ldI rfl,b.ldI rfl⟩
theorem K_14k(s n i z:Nat)(a b:Sl):(shL s n i z ++ [slF a]).set 4 (slF b)=shL s n i z ++ [slF b]:=rfl
def okN(c:List F):Bool:=decide (1≤bAt c 2∧bAt c 2≤16∧1≤bAt c 3∧1≤bAt c 4∧bAt c 4≤64)
theorem K_14t{w:World}{g:Nat}{e:TypeId}{c:List F}{tl:List Value}(b:Bk e w g (shL (setN c) (bAt c 2) (bAt c 3) (bAt c 4) ++ tl)):K_7n ⟨g,0,none⟩ w=some ((!okN c,()),w):=by
 obtain⟨l0,l1,l2,l3⟩:=K_wd b
 unfold K_7n okN
 simp only[add_lit,Nat.zero_add,l1,l2,l3,J_bs]
 by_cases h1:1≤bAt c 2
 ·rw[if_neg (by simp only[decide_eq_true_eq];omega)]
  by_cases h2:bAt c 2≤16
  ·rw[if_neg (by simp only[decide_eq_true_eq];omega)]
   by_cases h3:1≤bAt c 3
   ·rw[if_neg (by simp only[decide_eq_true_eq];omega)]
    by_cases h4:1≤bAt c 4
    ·rw[if_neg (by simp only[decide_eq_true_eq];omega)]
     by_cases h5:bAt c 4≤64
     ·rw[decide_eq_false (show ¬((bAt c 4:Nat):Int) > 64 by omega),decide_eq_true ⟨h1,h2,h3,h4,h5⟩];rfl
     ·rw[decide_eq_true (show ((bAt c 4:Nat):Int) > 64 by omega),decide_eq_false (fun h=>h5 h.2.2.2.2)];rfl
    ·rw[if_pos (by simp only[decide_eq_true_eq];omega),decide_eq_false (fun h=>h4 h.2.2.2.1)];rfl
   ·rw[if_pos (by simp only[decide_eq_true_eq];omega),decide_eq_false (fun h=>h3 h.2.2.1)];rfl
  ·rw[if_pos (by simp only[decide_eq_true_eq];omega),decide_eq_false (fun h=>h2 h.2.1)];rfl
 ·rw[if_pos (by simp only[decide_eq_true_eq];omega),decide_eq_false (fun h=>h1 h.1)];rfl
theorem K_rg{c:List F}:fitB c=(okN c && decide (c.length=5+(bAt c 4+4)+(5+(bAt c 4+4)) % 2+4∧((5+(bAt c 4+4)) % 2=1→bAt c (5+(bAt c 4+4))=0))):=by
 unfold fitB okN
 rw[Bool.eq_iff_iff]
 simp only[Bool.and_eq_true,decide_eq_true_eq]
 constructor
 ·rintro⟨a,b,c,d,e,f,g⟩;exact⟨⟨a,b,c,d,e⟩,f,g⟩
 ·rintro⟨⟨a,b,c,d,e⟩,f,g⟩;exact⟨a,b,c,d,e,f,g⟩
theorem K_15o{w:World}{b:Sl}{c:List F}(hs:BSrc w b c)(h5:5≤c.length)(hl:c.length≤1000):
  ∃ cs w',K_8k b w=some ((cs,fitB c,()),w')∧Upd none_ w w'∧(if fitB c=true then ∃ sv,cs=(shL (setN c) (bAt c 2) (bAt c 3) (bAt c 4) ++ [slF sv]).toArray∧BSrc w' sv (valsP c)∧(∀ q,sv.a=some q→∃ p,b.a=some p∧q.block=p.block) else cs=(shL 0 0 0 0 ++ [slF nilF]).toArray):=by
 have hbl:b.len=c.length:=by rw[hs.len,K_0]
 obtain⟨w1,a1,a2,a3,a4⟩:=K_g z102 102 w
 have a2:Bk 102 w1 w.heap.size (shL 0 0 0 0 ++ [slF nilF]):=by rw[K_dc]at a2;exact a2
 obtain⟨g,w2,b1,b2,b3,b4⟩:=K_15u (hs.upd0 a3) h5
 have u2:=a3.and0 b3
 have q1:=a3.size
 have q2:=b3.size
 have zero:∀ (w3:World),Upd none_ w1 w3→∃ w4,((prog.built 102 []).bind fun cs_37=>
 if (cs_37).size=5 then((stA ⟨w.heap.size,0,none⟩ cs_37 w3).bind fun w_38=>
 (ldA 5 ⟨w.heap.size,0,none⟩ w_38).bind fun res_39=>
 some ((res_39,false,()),w_38)) else none)=some (((shL 0 0 0 0 ++ [slF nilF]).toArray,false,()),w4)∧Upd none_ w w4:=fun w3 u3=>by
  obtain⟨w4,c1,c2,c3⟩:=(a2.upd0 u3).stA (o:=0) (vs:=(shL 0 0 0 0 ++ [slF nilF]).toArray) (by simp[shL]) (fun v hv=>K_9l _ _ _ _ _ v hv)
  have c2:Bk 102 w4 w.heap.size (shL 0 0 0 0 ++ [slF nilF]):=c2
  have c4:=c2.ldA (i:=0) (n:=5) (by simp[shL])
  have c4:ldA 5 ⟨w.heap.size,0,none⟩ w4=some (shL 0 0 0 0 ++ [slF nilF]).toArray:=c4
  exact⟨w4,by rw[built102z,J_bs,if_pos (by rfl),c1,J_bs,c4,J_bs],(a3.and0 u3).trans' c3 fun k hk e=>by omega⟩
 unfold K_8k
 rw[a1,bnd_ok,b1,bnd_ok]
 dsimp only
 rw[K_14t b2,bnd_ok]
 dsimp only
 obtain⟨l0,l1,l2,l3⟩:=K_wd b2
 by_cases hok:okN c=true
 ·have hb:=hok
  unfold okN at hb
  obtain⟨h1,h2,h3,h4,h64⟩:=of_decide_eq_true hb
  obtain⟨n,hn⟩:∃ n,n=bAt c 4+4:=⟨_,rfl⟩
  have e1:IntKind.i64.wrap (((bAt c 4:Nat):Int)+4)=((n:Nat):Int):=by rw[w64 (by omega) (by omega)];omega
  have e2:IntKind.i64.wrap (5+((n:Nat):Int))=((5+n:Nat):Int):=by rw[w64 (by omega) (by omega)];omega
  have e3:Int.tmod ((5+n:Nat):Int) 2=(((5+n) % 2:Nat):Int):=rfl
  have e4:IntKind.i64.wrap (((5+n:Nat):Int)+(((5+n) % 2:Nat):Int))=((5+n+(5+n) % 2:Nat):Int):=by rw[w64 (by omega) (by omega)];omega
  have e5:IntKind.i64.wrap (((5+n+(5+n) % 2:Nat):Int)+4)=((5+n+(5+n) % 2+4:Nat):Int):=by rw[w64 (by omega) (by omega)];omega
  have hf:fitB c=decide (c.length=5+n+(5+n) % 2+4∧((5+n) % 2=1→bAt c (5+n)=0)):=by rw[K_rg,hok,←hn];rfl
  have hs2:K_7v b ((n:Nat):Int) (((5+n) % 2:Nat):Int) w2=some ((!fitB c,()),w2):=by
   unfold K_7v
   rw[e2,e4,e5,hf,hbl]
   by_cases hlen:c.length=5+n+(5+n) % 2+4
   ·rw[if_neg (by rw[bne_iff_ne];omega)]
    by_cases hp:(5+n) % 2=1
    ·obtain⟨p,p1,p2⟩:=K_dm (hs.upd0 u2) (i:=5+n) (by omega)
     have cc:(0:Int)≤((5+n:Nat):Int)∧((5+n:Nat):Int)<((c.length:Nat):Int):=by omega
     rw[if_pos (by rw[hp];rfl),p1,J_bs,if_pos cc,J_tn,Nat.mul_one,p2,J_bs]
     have:(((bAt c (5+n):Nat):Int) != 0)=!decide (c.length=5+n+(5+n) % 2+4∧((5+n) % 2=1→bAt c (5+n)=0)):=by
      by_cases hz:bAt c (5+n)=0
      ·rw[hz,decide_eq_true ⟨hlen,fun _=>rfl⟩];rfl
      ·rw[decide_eq_false (fun h=>hz (h.2 hp))]
       have:(((bAt c (5+n):Nat):Int) != 0)=true:=by rw[bne_iff_ne];omega
       rw[this];rfl
     rw[this]
    ·rw[if_neg (by rw[beq_iff_eq];omega),decide_eq_true ⟨hlen,fun h=>absurd h hp⟩];rfl
   ·rw[if_pos (by rw[bne_iff_ne];omega),decide_eq_false (fun h=>hlen h.1)];rfl
  have ea:(((⟨g,0,none⟩:Addr).add 0).add 3)=⟨g,3,none⟩:=by simp only[add_lit,Nat.zero_add]
  rw[hok,if_neg (by decide),ea,l3,J_bs,e1,e2,e3,hs2,bnd_ok]
  dsimp only
  by_cases hfit:fitB c=true
  ·have hcl:c.length=5+n+(5+n) % 2+4:=(of_decide_eq_true (hf ▸ hfit)).1
   have hcap:=hs.cap
   rw[hfit,if_neg (by decide)]
   have c1:(0:Int)≤((5+n:Nat):Int)∧((5+n:Nat):Int)≤((b.cap:Nat):Int):=by omega
   have c2:(0:Int)≤((5+n:Nat):Int)∧((5+n:Nat):Int)≤(((Int.toNat ((5+n:Nat):Int)):Nat):Int):=by rw[J_tn];omega
   have c3:(0:Int)≤5∧(5:Int)≤(((Int.toNat ((5+n:Nat):Int)):Nat):Int):=by rw[J_tn];omega
   rw[if_pos c1,if_pos c2,if_pos c3,J_tn]
   obtain⟨sv,hsv⟩:∃ sv:Sl,sv=⟨sla b.a 5 (5+n) 1,5+n - 5,5+n - 5⟩:=⟨_,rfl⟩
   obtain⟨w3,d1,d2,d3⟩:=b2.stC (i:=4) (by simp[shL]) (slF sv)
   rw[K_14k]at d2
   have d1:stC ⟨g,4,none⟩ (.slice (sla b.a 5 (5+n) 1) (5+n - 5) (5+n - 5)) w2=some w3:=by rw[hsv]at d1;exact d1
   have d4:=d2.ldA (i:=0) (n:=5) (by simp[shL])
   have d4:ldA 5 ⟨g,0,none⟩ w3=some (shL (setN c) (bAt c 2) (bAt c 3) (bAt c 4) ++ [slF sv]).toArray:=d4
   have hgw:g≠w.heap.size:=by omega
   have u3:Upd none_ w w3:=u2.trans' d3 fun k hk e=>by omega
   obtain⟨w4,f1,f2,f3⟩:=((a2.upd0 b3).upd d3 (fun e=>hgw e.symm)).stA (o:=0) (vs:=(shL (setN c) (bAt c 2) (bAt c 3) (bAt c 4) ++ [slF sv]).toArray) (by simp[shL]) (fun v hv=>K_9l _ _ _ _ _ v hv)
   have f2:Bk 102 w4 w.heap.size (shL (setN c) (bAt c 2) (bAt c 3) (bAt c 4) ++ [slF sv]):=f2
   have f4:=f2.ldA (i:=0) (n:=5) (by simp[shL])
   have f4:ldA 5 ⟨w.heap.size,0,none⟩ w4=some (shL (setN c) (bAt c 2) (bAt c 3) (bAt c 4) ++ [slF sv]).toArray:=f4
   have u4:Upd none_ w w4:=u3.trans' f3 fun k hk e=>by omega
   refine⟨(shL (setN c) (bAt c 2) (bAt c 3) (bAt c 4) ++ [slF sv]).toArray,w4,?_,u4,?_⟩
   ·rw[add_lit,Nat.zero_add,d1,J_bs,d4,J_bs,if_pos (by rfl),f1,J_bs,f4,J_bs]
   rw[if_pos rfl]
   refine⟨sv,rfl,?_,fun q hq=>?_⟩
   ·have h0:=(hs.upd0 u4)
    have h1:=(K_vw h0 (lo:=5) (by rw[K_0];omega)).cut (n:=n) (by show n≤b.len - 5;omega)
    have h1:Fw.Src w4 ⟨sla b.a 5 b.cap 1,n,b.cap - 5⟩ ((fb c).drop 5 |>.take n):=h1
    rw[K_ym,K_g1]at h1
    have hsla:sla b.a 5 (5+n) 1=sla b.a 5 b.cap 1:=by
     unfold sla
     rw[if_neg (by omega),if_neg (by omega)]
    have hvp:valsP c=(c.drop 5).take n:=by unfold valsP;rw[←hn]
    have hvl:=K_m0 hfit
    rw[hvp]at hvl ⊢
    refine⟨?_,?_,?_,h1.one⟩
    ·rw[hsv,K_0,hvl]
     show 5+n - 5=_;omega
    ·rw[hsv];exact Nat.le_refl _
    ·rw[hsv]
     rcases h1.rd with ⟨x1,x2,x3⟩ | ⟨p,x1,x2⟩
     ·have h0:((c.drop 5).take n).length=0:=by
       have h:=congrArg List.length x3
       rw[K_0]at h
       exact h
      omega
     ·exact .inr ⟨p,by show sla b.a 5 (5+n) 1=some p;rw[hsla];exact x1,x2⟩
   ·rw[hsv]at hq
    exact K_13k hq
  ·have hff:fitB c=false:=by simpa using hfit
   rw[hff,if_pos (by decide)]
   obtain⟨w4,z1,z2⟩:=zero w2 b3
   exact⟨_,w4,z1,z2,by rw[if_neg (by decide)]⟩
 ·have hff:okN c=false:=by simpa using hok
  have hfz:fitB c=false:=by rw[K_rg,hff];rfl
  rw[hff,if_pos (by decide),hfz]
  obtain⟨w4,z1,z2⟩:=zero w2 b3
  exact⟨_,w4,z1,z2,by rw[if_neg (by decide)]⟩
end Go.Sh

namespace Go.Sh
open Go.Fw Go.Gf Go.RowKit Go.Proofs.Tryd
def b8(n:Nat):F:=⟨n % 256,Nat.mod_lt _ (by decide)⟩
def bytes5(s need idx size:Nat):List F:=[b8 (s / 256),b8 s,b8 need,b8 idx,b8 size]
def padL(l:List F):List F:=if l.length % 2=1 then l ++ [0] else l
def lineL(s need idx size:Nat)(vals:List F):List F:=codedP (padL (bytes5 s need idx size ++ vals))
theorem K_9c{n:Nat}:IntKind.u8.wrap (n:Int)=bF (b8 n):=by rw[IntKind.wrap_u8];rfl
theorem K_158(l:List F):(padL l).length≤l.length+1:=by unfold padL;split <;> simp
theorem K_10b{K:Nat}(hK:18446744073709551616≤K){w w0:World}{sv:Sl}{vals:List F}{s need idx size:Nat}(hs:s<65536)(hv:BSrc w sv vals)(hvl:vals.length≤1000000):
  ∃ w1 s2 w2,bldS prog 23 5 #[(0,(.int .u8 (bF (b8 (s / 256))))),(1,(.int .u8 (bF (b8 s)))),(2,(.int .u8 (bF (b8 need)))),(3,(.int .u8 (bF (b8 idx)))),(4,(.int .u8 (bF (b8 size))))] w=some (⟨some ⟨w.heap.size,0,none⟩,5,5⟩,w1)∧
   apd prog 23 23 (.slice (some ⟨w.heap.size,0,none⟩) 5 5) (.slice sv.a sv.len sv.cap) w1=some (s2,w2)∧OwnS 5 w2 s2 (fb (bytes5 s need idx size ++ vals))∧Upd none_ w w2∧Fresh w.heap.size s2∧s2.len=5+vals.length:=by
 obtain⟨w1,a1,a2,a3,a4⟩:=K_4b sliceB (fb (bytes5 s need idx size)) (fun v hv=>by obtain⟨x,_,rfl⟩:=List.mem_map.1 hv;rfl) (by rw[K_0];simp[bytes5]) (by rw[K_0];simp[bytes5]) w
 have a1:bldS prog 23 5 #[(0,(.int .u8 (bF (b8 (s / 256))))),(1,(.int .u8 (bF (b8 s)))),(2,(.int .u8 (bF (b8 need)))),(3,(.int .u8 (bF (b8 idx)))),(4,(.int .u8 (bF (b8 size))))] w=some (⟨some ⟨w.heap.size,0,none⟩,5,5⟩,w1):=a1
 have a2:OwnS 5 w1 ⟨some ⟨w.heap.size,0,none⟩,5,5⟩ (fb (bytes5 s need idx size)):=a2
 have hsl:sv.len=vals.length:=by rw[hv.len,K_0]
 obtain⟨s2,w2,b1,b2,b3,b4,b5⟩:=K_34 sliceB a2 (hv.upd0 a3) (by show (5+sv.len)*1≤_;omega)
 rw[←K_5v]at b3
 have q1:=a3.size
 refine⟨w1,s2,w2,a1,b1,b3,a3.trans' b4 fun j hj e=>by have e2:w.heap.size=j:=Option.some.inj e;omega,fun k hk=>?_,by rw[b2,hsl]⟩
 rcases b5 with e | e
 ·rw[e]at hk;have e2:w.heap.size=k:=Option.some.inj hk;omega
 ·rw[e]at hk;have e2:w1.heap.size=k:=Option.some.inj hk;omega
theorem K_v7{K:Nat}(hK:18446744073709551616≤K){w:World}{sv:Sl}{vals:List F}{s need idx size:Nat}(hs:s<65536)(hv:BSrc w sv vals)(hvl:vals.length≤1000000):
  ∃ s' w',K_36 K (shL s need idx size ++ [slF sv]).toArray w=some ((s',()),w')∧OwnS 5 w' s' (fb (lineL s need idx size vals))∧Upd none_ w w'∧Fresh w.heap.size s':=by
 obtain⟨w1,a1,a2,a3,a4⟩:=K_g (shL s need idx size ++ [slF sv]).toArray 102 w
 have a2:Bk 102 w1 w.heap.size (shL s need idx size ++ [slF sv]):=a2
 obtain⟨l0,l1,l2,l3⟩:=K_wd a2
 have q1:=a3.size
 obtain⟨w2,s3,w3,b1,b2,b3,b4,b5,b6⟩:=K_10b hK (w0:=w) (s:=s) (need:=need) (idx:=idx) (size:=size) hs (hv.upd0 a3) hvl
 have e1:IntKind.u8.wrap (Int.fdiv (s:Int) (2 ^ 8))=bF (b8 (s / 256)):=by
  have:Int.fdiv (s:Int) (2 ^ 8)=((s / 256:Nat):Int):=K_g3 s 8
  rw[this,K_9c]
 have u12:Upd none_ w1 w2:=by
  obtain⟨w2',x1,x2,x3,x4⟩:=K_4b sliceB (fb (bytes5 s need idx size)) (fun v hv=>by obtain⟨x,_,rfl⟩:=List.mem_map.1 hv;rfl) (by rw[K_0];simp[bytes5]) (by rw[K_0];simp[bytes5]) w1
  have x1:bldS prog 23 5 #[(0,(.int .u8 (bF (b8 (s / 256))))),(1,(.int .u8 (bF (b8 s)))),(2,(.int .u8 (bF (b8 need)))),(3,(.int .u8 (bF (b8 idx)))),(4,(.int .u8 (bF (b8 size))))] w1=some (_,w2'):=x1
  rw[b1]at x1
  obtain⟨_,rfl⟩:=Prod.mk.inj (Option.some.inj x1)
  exact x3
 have l4:=(a2.upd0 u12).ldS (i:=4) (a:=sv.a) (l:=sv.len) (c:=sv.cap) rfl
 have u3:=a3.and0 b4
 have hsum:(bytes5 s need idx size ++ vals).length=5+vals.length:=by rw[List.length_append];rfl
 have hm:Int.tmod ((s3.len:Nat):Int) 2=(((5+vals.length) % 2:Nat):Int):=by rw[b6];rfl
 unfold K_36
 rw[a1,bnd_ok]
 simp only[add_lit,Nat.zero_add,l0,l1,l2,l3,J_bs,e1,K_9c]
 rw[b1,bnd_ok,l4,J_bs]
 dsimp only
 rw[b2,bnd_ok,hm]
 by_cases hp:(5+vals.length) % 2=1
 ·have hpl:padL (bytes5 s need idx size ++ vals)=bytes5 s need idx size ++ vals ++ [0]:=by unfold padL;rw[hsum,if_pos hp]
  obtain⟨w4,s5,w5,c1,c2,c3,c4,c5⟩:=K_p7 b3 (by rw[hsum];omega) 0
  have c1:bldS prog 23 1 #[(0,(.int .u8 0))] w3=some (⟨some ⟨w3.heap.size,0,none⟩,1,1⟩,w4):=c1
  have q3:=u3.size
  obtain⟨s6,w6,d1,d2,d3,d4⟩:=K_wb hK (c3.src (K_14 _)) (by rw[List.length_append,hsum];show 5+vals.length+1≤_;omega)
  have q5:=c4.size
  refine⟨s6,w6,?_,by unfold lineL;rw[hpl];exact d2,(u3.trans' c4 fun k hk e=>by have:=b5 k e;omega).and0 d3,fun k hk=>by have:=d4 k hk;omega⟩
  rw[if_pos (by rw[hp];rfl),c1,bnd_ok]
  dsimp only
  rw[c2,bnd_ok,d1,bnd_ok]
 ·have hpl:padL (bytes5 s need idx size ++ vals)=bytes5 s need idx size ++ vals:=by unfold padL;rw[hsum,if_neg hp]
  obtain⟨s6,w6,d1,d2,d3,d4⟩:=K_wb hK (b3.src (K_14 _)) (by rw[hsum];omega)
  have q3:=u3.size
  refine⟨s6,w6,?_,by unfold lineL;rw[hpl];exact d2,u3.and0 d3,fun k hk=>by have:=d4 k hk;omega⟩
  rw[if_neg (by rw[beq_iff_eq];omega),d1,bnd_ok]
end Go.Sh

namespace Go.Sh
open Go.Fw Go.Gf Go.RowKit Go.Proofs.Tryd
def mendR(T:List Nat):Int×Option (List F×Nat):=
 if 1024<T.length then(4,none) else
 match rdP T [] [] with
 | none=>(112,none)
 | some l=>if l.length<14∨78<l.length then(113,none) else
  match Gf.repP l with
  | none=>(113,none)
  | some r=>if fitB r.1=true then(0,some r) else(113,none)
theorem K_so{T:List Nat}{c:List F}{n:Nat}(h:(mendR T).2=some (c,n)):(mendR T).1=0∧fitB c=true∧14≤c.length∧c.length≤78:=by
 unfold mendR at h ⊢
 split at h
 ·cases h
 ·rename_i h1
  rw[if_neg h1]
  split at h
  ·cases h
  ·rename_i l hl
   split at h
   ·cases h
   ·rename_i h2
    split at h
    ·cases h
    ·rename_i r hr
     split at h
     ·rename_i h3
      obtain rfl:=Option.some.inj h
      have:=(K_os (b:=l) (by omega)).2 _ hr
      have hlen:=this.1
      dsimp only at h3 hlen ⊢
      rw[if_neg h2,if_pos h3]
      exact⟨rfl,h3,by omega,by omega⟩
     ·cases h
theorem K_zy{T:List Nat}(h:(mendR T).2=none):(mendR T).1≠0:=by
 unfold mendR at h ⊢
 split
 ·decide
 ·rename_i h1
  rw[if_neg h1]at h
  split
  ·decide
  ·rename_i l hl
   rw[hl]at h
   dsimp only at h
   split
   ·decide
   ·rename_i h2
    rw[if_neg h2]at h
    split
    ·decide
    ·rename_i r hr
     rw[hr]at h
     dsimp only at h
     split
     ·rename_i h3;rw[if_pos h3]at h;cases h
     ·decide
def shareC(c:List F)(sv:Sl):List Value:=shL (setN c) (bAt c 2) (bAt c 3) (bAt c 4) ++ [slF sv]
def share0:List Value:=shL 0 0 0 0 ++ [slF nilF]
theorem K_11n{K:Nat}(hK:18446744073709551616≤K)(w:World){t:ByteArray}{T:List Nat}(hT:IsText t T)(hTb:∀ c∈T,c<256):
  ∃ cs n w',K_6n K t w=some ((cs,n,(mendR T).1,()),w')∧Upd none_ w w'∧(match (mendR T).2 with | some r=>n=((r.2:Nat):Int)∧∃ sv,cs=(shareC r.1 sv).toArray∧BSrc w' sv (valsP r.1)∧Fresh w.heap.size sv | none=>n=0∧cs=share0.toArray):=by
 have hsz:=hT.1
 obtain⟨w1,a1,a2,a3,a4⟩:=K_g z102 102 w
 have a2:Bk 102 w1 w.heap.size share0:=by rw[K_dc]at a2;exact a2
 have q1:=a3.size
 have zero:∀ (w3:World) (e:Int),Upd none_ w1 w3→∃ w4,((prog.built 102 []).bind fun cs_3=>
 if (cs_3).size=5 then((stA ⟨w.heap.size,0,none⟩ cs_3 w3).bind fun w_4=>
 (ldA 5 ⟨w.heap.size,0,none⟩ w_4).bind fun res_5=>
 some (((res_5,0,e,()),w_4):(Array Value×Int×Int×Unit)×World)) else none)=some ((share0.toArray,0,e,()),w4)∧Upd none_ w w4:=fun w3 e u3=>by
  obtain⟨w4,c1,c2,c3⟩:=(a2.upd0 u3).stA (o:=0) (vs:=share0.toArray) (by simp[share0,shL]) (fun v hv=>K_9l _ _ _ _ _ v hv)
  have c2:Bk 102 w4 w.heap.size share0:=c2
  have c4:=c2.ldA (i:=0) (n:=5) (by simp[share0,shL])
  have c4:ldA 5 ⟨w.heap.size,0,none⟩ w4=some share0.toArray:=c4
  have hb:prog.built 102 []=some share0.toArray:=built102z
  exact⟨w4,by rw[hb,J_bs,if_pos (by rfl),c1,J_bs,c4,J_bs],(a3.and0 u3).trans' c3 fun k hk e=>by omega⟩
 unfold K_6n mendR
 rw[a1,bnd_ok]
 by_cases h1:1024<T.length
 ·rw[if_pos (decide_eq_true (show ((t.size:Nat):Int) > 1024 by omega)),if_pos h1]
  obtain⟨w4,z1,z2⟩:=zero w1 4 (Upd.refl _ _)
  exact⟨_,_,w4,z1,z2,rfl,rfl⟩
 ·rw[if_neg (by simp only[decide_eq_true_eq];omega),if_neg h1]
  obtain⟨s,v,w2,b1,b2,b3⟩:=K_xu hK w1 hT hTb (by omega)
  rw[b1,bnd_ok]
  dsimp only
  cases hr:rdP T [] [] with
  | none=>
   rw[hr]at b3
   have b3:v=false:=b3
   rw[b3,if_pos (by decide)]
   obtain⟨w4,z1,z2⟩:=zero w2 112 b2
   exact⟨_,_,w4,z1,z2,rfl,rfl⟩
  | some l=>
   rw[hr]at b3
   obtain⟨rfl,o2,f2,l2⟩:=b3
   have hsl:s.len=l.length:=by rw[o2.len,K_0]
   dsimp only
   rw[if_neg (by decide)]
   have hs0:K_6c K s w2=some ((decide (l.length<14∨78<l.length),()),w2):=by
    unfold K_6c
    rw[hsl]
    by_cases h14:l.length<14
    ·rw[if_pos (decide_eq_true (show ((l.length:Nat):Int)<14 by omega)),decide_eq_true (Or.inl h14)]
    ·rw[if_neg (by simp only[decide_eq_true_eq];omega)]
     have:decide (((l.length:Nat):Int) > 78)=decide (l.length<14∨78<l.length):=by rw[decide_eq_decide];omega
     rw[this]
   rw[hs0,bnd_ok]
   dsimp only
   by_cases h2:l.length<14∨78<l.length
   ·rw[if_pos (decide_eq_true h2),if_pos h2]
    obtain⟨w4,z1,z2⟩:=zero w2 113 b2
    exact⟨_,_,w4,z1,z2,rfl,rfl⟩
   ·rw[if_neg (fun h=>h2 (of_decide_eq_true h)),if_neg h2]
    obtain⟨s3,n3,v3,w3,c1,c2,c3⟩:=K_y1 hK (o2.src (K_14 _)) (by omega)
    rw[c1,bnd_ok]
    dsimp only
    have u3:=b2.and0 c2
    have q2:=b2.size
    cases hp:Gf.repP l with
    | none=>
     rw[hp]at c3
     have c3:v3=false:=c3
     rw[c3,if_pos (by decide)]
     obtain⟨w4,z1,z2⟩:=zero w3 113 u3
     exact⟨_,_,w4,z1,z2,rfl,rfl⟩
    | some r=>
     rw[hp]at c3
     obtain⟨rfl,hn3,o3,f3⟩:=c3
     have hlen:=((K_os (b:=l) (by omega)).2 _ hp).1
     dsimp only at hlen ⊢
     rw[if_neg (by decide)]
     obtain⟨cs,w4,d1,d2,d3⟩:=K_15o o3 (by omega) (by omega)
     rw[d1,bnd_ok]
     dsimp only
     have u4:=u3.and0 d2
     obtain⟨w5,e1,e2,e3,e4⟩:=K_g z102 102 w4
     have e2:Bk 102 w5 w4.heap.size share0:=by rw[K_dc]at e2;exact e2
     rw[e1,bnd_ok]
     have q4:=u4.size
     by_cases hf:fitB r.1=true
     ·rw[if_pos hf]at d3 ⊢
      obtain⟨sv,hcs,dv,df⟩:=d3
      have hcs:cs=(shareC r.1 sv).toArray:=hcs
      rw[hcs,hf]
      obtain⟨w6,g1,g2,g3⟩:=e2.stA (o:=0) (vs:=(shareC r.1 sv).toArray) (by simp[share0,shareC,shL]) (fun v hv=>K_9l _ _ _ _ _ v hv)
      have g2:Bk 102 w6 w4.heap.size (shareC r.1 sv):=g2
      have g4:=g2.ldA (i:=0) (n:=5) (by simp[shareC,shL])
      have g4:ldA 5 ⟨w4.heap.size,0,none⟩ w6=some (shareC r.1 sv).toArray:=g4
      have u46:Upd none_ w4 w6:=e3.trans' g3 fun k hk e=>by omega
      obtain⟨w7,i1,i2,i3⟩:=((a2.upd0 u4).upd0 u46).stA (o:=0) (vs:=(shareC r.1 sv).toArray) (by simp[share0,shareC,shL]) (fun v hv=>K_9l _ _ _ _ _ v hv)
      have i2:Bk 102 w7 w.heap.size (shareC r.1 sv):=i2
      have i4:=i2.ldA (i:=0) (n:=5) (by simp[shareC,shL])
      have i4:ldA 5 ⟨w.heap.size,0,none⟩ w7=some (shareC r.1 sv).toArray:=i4
      have hz:(shareC r.1 sv).toArray.size=5:=rfl
      have hb3:∀ q,s3.a=some q→w1.heap.size≤q.block:=fun q hq=>by
       rcases f3 with e | e
       ·rw[e]at hq;exact f2 q.block (by simp[Sl.blk,hq])
       ·have:=e q.block (by simp[Sl.blk,hq]);omega
      have hfv:Fresh w1.heap.size sv:=fun k hk=>by
       cases ha:sv.a with
       | none=>rw[Sl.blk,ha]at hk;cases hk
       | some q=>
        rw[Sl.blk,ha]at hk
        have hk:q.block=k:=Option.some.inj hk
        obtain⟨p,p1,p2⟩:=df q ha
        have:=hb3 p p1
        omega
      refine⟨_,_,w7,?_,((a3.and0 u4).and0 u46).trans' i3 fun k hk e=>by omega,hn3,sv,rfl,?_,fun k hk=>by have:=hfv k hk;omega⟩
      ·rw[if_pos hz,g1,J_bs,if_neg (by decide),g4,J_bs,if_pos hz,i1,J_bs,i4,J_bs]
      ·exact K_3r (dv.upd0 u46) i3 fun q hq _=>by have:=hfv q.block (by simp[Sl.blk,hq]);omega
     ·rw[if_neg hf]at d3 ⊢
      have hff:fitB r.1=false:=by simpa using hf
      have d3:cs=share0.toArray:=d3
      rw[d3,hff]
      obtain⟨w6,g1,g2,g3⟩:=e2.stA (o:=0) (vs:=share0.toArray) (by simp[share0,shL]) (fun v hv=>K_9l _ _ _ _ _ v hv)
      have u46:Upd none_ w4 w6:=e3.trans' g3 fun k hk e=>by omega
      have hz:share0.toArray.size=5:=rfl
      obtain⟨w7,z1,z2⟩:=zero w6 113 (u4.and0 u46)
      refine⟨_,_,w7,?_,z2,rfl,rfl⟩
      rw[if_pos hz,g1,J_bs,if_pos (by decide)]
      exact z1
theorem K_139(s n i z:Nat)(vals:List F):(lineL s n i z vals).length≤vals.length+10:=by
 unfold lineL
 rw[Gf.codedP_length]
 have:=K_158 (bytes5 s n i z ++ vals)
 rw[List.length_append]at this
 have h5:(bytes5 s n i z).length=5:=rfl
 omega
theorem K_15s{K:Nat}(hK:18446744073709551616≤K){w:World}{sv:Sl}{vals:List F}{s n i z:Nat}(hs:s<65536)(hv:BSrc w sv vals)(hvl:vals.length≤1000000):
  ∃ w',K_2c K (shL s n i z ++ [slF sv]).toArray w=some ((textOf (lineL s n i z vals),()),w')∧Upd none_ w w':=by
 obtain⟨w1,a1,a2,a3,a4⟩:=K_g (shL s n i z ++ [slF sv]).toArray 102 w
 have a2:Bk 102 w1 w.heap.size (shL s n i z ++ [slF sv]):=a2
 have a5:=a2.ldA (i:=0) (n:=5) (by simp[shL])
 have a5:ldA 5 ⟨w.heap.size,0,none⟩ w1=some (shL s n i z ++ [slF sv]).toArray:=a5
 obtain⟨s2,w2,b1,b2,b3,b4⟩:=K_v7 hK (s:=s) (need:=n) (idx:=i) (size:=z) hs (hv.upd0 a3) hvl
 have hl:=K_139 s n i z vals
 obtain⟨w3,c1,c2⟩:=K_12z hK (b2.src (K_14 _)) (by omega) (K_ci b2)
 refine⟨w3,?_,(a3.and0 b3).and0 c2⟩
 unfold K_2c
 rw[a1,bnd_ok,a5,J_bs,b1,bnd_ok,c1,bnd_ok]
end Go.Sh

namespace Go.Sh
open Go.Fw Go.Gf Go.RowKit Go.Proofs.Tryd
def partC(s n i z:Nat)(sv:Sl)(wr:Nat):List Value:=shL s n i z ++ [slF sv,.int .i64 (wr:Int)]
theorem K_13w(s n i z:Nat)(sv:Sl)(wr:Nat):∀ v∈partC s n i z sv wr,v.oneCell'=true:=fun v hv=>by
 rcases List.mem_append.1 hv with h | h
 ·exact K_z7 s n i z v h
 ·simp only[List.mem_cons,List.not_mem_nil,or_false]at h
  rcases h with rfl | rfl <;> rfl
end Go.Sh

namespace Go.Sh
open Go.Fw Go.Gf Go.RowKit Go.Proofs.Tryd
end Go.Sh

namespace Go.Sh
open Go.Fw Go.RowKit Go.Proofs.Tryd
end Go.Sh

namespace Go.Sh
open Go.Fw Go.Gf Go.RowKit Go.Proofs.Tryd
theorem sliceT:OneSlice prog 29 9 (.string ⟨#[]⟩) 16:=⟨by kernel_rfl,⟨t9,by kernel_rfl,by kernel_rfl,by kernel_rfl,by kernel_rfl⟩,by decide,rfl,rfl⟩
def tx(ts:List ByteArray):List Value:=ts.map Value.string
theorem K_4t(ts:List ByteArray):(tx ts).length=ts.length:=List.length_map ..
theorem K_kp(ts:List ByteArray):∀ v∈tx ts,v.oneCell'=true:=fun v hv=>by obtain⟨x,_,rfl⟩:=List.mem_map.1 hv;rfl
theorem K_121(a b:List ByteArray):tx (a ++ b)=tx a ++ tx b:=List.map_append ..
theorem tx_at{w:World}{s:Sl}{ts:List ByteArray}(h:Src w s (tx ts)){i:Nat}(hi:i<ts.length):∃ p,s.a=some p∧ldStr (p.add i) w=some ts[i]:=by
 rcases h.rd with ⟨_,_,e⟩ | ⟨p,e1,e2⟩
 ·have:=congrArg List.length e
  rw[K_4t]at this
  rw[this]at hi;simp at hi
 ·refine⟨p,e1,?_⟩
  have hv:(tx ts)[i]? =some (.string ts[i]):=by unfold tx;rw[List.getElem?_map,J_ge hi];rfl
  have:=e2 i _ hv
  unfold ldStr
  rw[this];rfl
theorem K_153{w:World}{s:Sl}{ts:List ByteArray}(ho:OwnS 9 w s (tx ts))(hl:ts.length≤1099511627776)(v:ByteArray):
  ∃ w1 s' w',bldS prog 29 1 #[(0,(.string v))] w=some (⟨some ⟨w.heap.size,0,none⟩,1,1⟩,w1)∧apd prog 29 29 (.slice s.a s.len s.cap) (.slice (some ⟨w.heap.size,0,none⟩) 1 1) w1=some (s',w')∧OwnS 9 w' s' (tx (ts ++ [v]))∧Upd (fun k=>s.blk=some k) w w'∧∀ k,s'.blk=some k→s.blk=some k∨w.heap.size≤k:=by
 obtain⟨w1,a1,a2,a3,a4⟩:=K_57 sliceT (.string v) rfl w
 have a2:OwnS 9 w1 ⟨some ⟨w.heap.size,0,none⟩,1,1⟩ (tx [v]):=a2
 have hpl:=ho.len
 rw[K_4t]at hpl
 obtain⟨s2,w2,b1,b2,b3,b4,b5⟩:=K_34 sliceT (ho.upd0 a3) (a2.src (K_kp _)) (by show (s.len+1)*16≤_;omega)
 rw[←K_121]at b3
 have q1:=a3.size
 refine⟨w1,s2,w2,a1,b1,b3,(a3.mono (T:=fun k=>s.blk=some k) fun _ _ e=>e.elim).trans' b4 fun _ _ e=>e,fun k hk=>?_⟩
 rcases b5 with e | e
 ·rw[e]at hk;exact .inl hk
 ·rw[e]at hk;have e2:w1.heap.size=k:=Option.some.inj hk;exact .inr (by omega)
end Go.Sh

namespace Go.Sha
open Go.Fw
def rr32(x:Int)(n:Nat):Int:=bits .or .u32 (IntKind.u32.wrap (x*2 ^ (32 - n))) (Int.fdiv x (2 ^ n))
def sch32(x y w16 w7:Int):Int:=
 IntKind.u32.wrap ((IntKind.u32.wrap ((IntKind.u32.wrap (w16+w7))+(bits .xor .u32 (bits .xor .u32 (rr32 x 7) (rr32 x 18)) (Int.fdiv x (2 ^ 3)))))+(bits .xor .u32 (bits .xor .u32 (rr32 y 17) (rr32 y 19)) (Int.fdiv y (2 ^ 10))))
def word32(p q r s:Int):Int:=
 bits .or .u32 (bits .or .u32 (bits .or .u32 (IntKind.u32.wrap ((IntKind.u32.wrap p)*2 ^ 24)) (IntKind.u32.wrap ((IntKind.u32.wrap q)*2 ^ 16))) (IntKind.u32.wrap ((IntKind.u32.wrap r)*2 ^ 8))) (IntKind.u32.wrap s)
def words32(bs:List Int):Nat→List Int
 | 0=>[]
 | n+1=>words32 bs n ++ [word32 (bs.getD (4*n) 0) (bs.getD (4*n+1) 0) (bs.getD (4*n+2) 0) (bs.getD (4*n+3) 0)]
def ext32:Nat→List Int→List Int
 | 0,s=>s
 | n+1,s=>ext32 n (s ++ [sch32 (s.getD (s.length - 15) 0) (s.getD (s.length - 2) 0) (s.getD (s.length - 16) 0) (s.getD (s.length - 7) 0)])
def t1_32(e f g k x w:Int):Int:=
 IntKind.u32.wrap ((IntKind.u32.wrap ((IntKind.u32.wrap ((IntKind.u32.wrap (k+(bits .xor .u32 (bits .xor .u32 (rr32 e 6) (rr32 e 11)) (rr32 e 25))))+(bits .xor .u32 (bits .and .u32 e f) (bits .and .u32 (bits .xor .u32 IntKind.u32.max e) g))))+x))+w)
def t2_32(a b c:Int):Int:=
 IntKind.u32.wrap ((bits .xor .u32 (bits .xor .u32 (rr32 a 2) (rr32 a 13)) (rr32 a 22))+(bits .xor .u32 (bits .xor .u32 (bits .and .u32 a b) (bits .and .u32 a c)) (bits .and .u32 b c)))
abbrev V8:=Int×Int×Int×Int×Int×Int×Int×Int×Unit
def rounds32(W C:List Int):Nat→Nat→Int→Int→Int→Int→Int→Int→Int→Int→V8
 | 0,_,a,b,c,d,e,f,g,k=>(a,b,c,d,e,f,g,k,())
 | n+1,i,a,b,c,d,e,f,g,k=>
  rounds32 W C n (i+1) (IntKind.u32.wrap (t1_32 e f g k (IntKind.u32.wrap (Int.fdiv (C.getD i 0) (2 ^ 32))) (W.getD i 0)+t2_32 a b c)) a b c
   (IntKind.u32.wrap (d+t1_32 e f g k (IntKind.u32.wrap (Int.fdiv (C.getD i 0) (2 ^ 32))) (W.getD i 0))) e f g
def list8(v:V8):List Int:=[v.1,v.2.1,v.2.2.1,v.2.2.2.1,v.2.2.2.2.1,v.2.2.2.2.2.1,v.2.2.2.2.2.2.1,v.2.2.2.2.2.2.2.1]
def rv32(C H bs:List Int):V8:=
 rounds32 (ext32 48 (words32 bs 16)) C 64 0 ((H.map IntKind.u32.wrap).getD 0 0) ((H.map IntKind.u32.wrap).getD 1 0) ((H.map IntKind.u32.wrap).getD 2 0) ((H.map IntKind.u32.wrap).getD 3 0) ((H.map IntKind.u32.wrap).getD 4 0) ((H.map IntKind.u32.wrap).getD 5 0) ((H.map IntKind.u32.wrap).getD 6 0) ((H.map IntKind.u32.wrap).getD 7 0)
def sum8(v x:List Int):List Int:=(List.range 8).map fun i=>IntKind.u64.wrap (IntKind.u32.wrap (v.getD i 0+x.getD i 0))
def comp32(C H bs:List Int):List Int:=sum8 (H.map IntKind.u32.wrap) (list8 (rv32 C H bs))
def comps32(C:List Int):Nat→List Int→List Int→List Int
 | 0,H,_=>H
 | n+1,H,bs=>comps32 C n (comp32 C H bs) (bs.drop 64)
theorem K_2o(bs:List Int):∀ n,(words32 bs n).length=n
 | 0=>rfl
 | n+1=>by simp[words32,K_2o bs n]
theorem K_nr:∀ n s,(ext32 n s).length=s.length+n
 | 0,s=>rfl
 | n+1,s=>by simp[ext32,K_nr n];omega
theorem K_fn(C H bs:List Int):(comp32 C H bs).length=8:=by simp[comp32,sum8]
theorem K_ip(C:List Int):∀ (n:Nat) (H bs:List Int),H.length=8→(comps32 C n H bs).length=8
 | 0,_,_,h=>h
 | n+1,H,bs,_=>K_ip C n _ _ (K_fn C H bs)
end Go.Sha
