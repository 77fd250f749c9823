/- Texts of this claim, put together: Gf, Field, Fld, Pol, Rs, Rep, Sol, Cod, EscA, EscB, BookA, BookB, BookC, EscC, EscD, EscE, EscF, EscG, EscH, EscI -/
import Derived.Test.YteomkfcfhlljkaaDoorAllFwbgdbhh
import Derived.Test.YteomkfcfhlljkaaDoorAllShkogldk
namespace Go.Gf
def xt(a:Nat):Nat:=if a &&& 128=0 then a*2 % 256 else(a*2 % 256) ^^^ 27
def mulG:Nat→Nat→Nat→Nat→Nat
 | 0,_,_,p=>p
 | n+1,a,b,p=>mulG n (xt a) (b / 2) (if b % 2=1 then p ^^^ a else p)
def mul(a b:Nat):Nat:=mulG 8 a b 0
theorem K_184:∀ (n a p:Nat),mulG n a 0 p=p
 | 0,_,_=>rfl
 | n+1,a,p=>by simp[mulG,K_184 n]
theorem xt_lt{a:Nat}:xt a<256:=by
 unfold xt
 split
 ·omega
 ·exact Nat.xor_lt_two_pow (n:=8) (by omega) (by omega)
theorem K_1dd:∀ (n a b p:Nat),a<256→p<256→mulG n a b p<256
 | 0,_,_,_,_,hp=>hp
 | n+1,a,b,p,ha,hp=>by
  unfold mulG
  refine K_1dd n _ _ _ xt_lt ?_
  split
  ·exact Nat.xor_lt_two_pow (n:=8) hp ha
  ·exact hp
theorem K_1h6{a b:Nat}(ha:a<256):mul a b<256:=K_1dd 8 a b 0 ha (by decide)
def pol:Nat→Nat→Nat→Nat→Nat→Nat
 | 0,_,_,_,p=>p
 | n+1,i,a,b,p=>pol n (i+1) a b (if b / 2 ^ i % 2=1 then p ^^^ (a*2 ^ i) else p)
def redS(i p:Nat):Nat:=if p / 2 ^ i % 2=1 then p ^^^ (283*2 ^ (i - 8)) else p
def red:Nat→Nat→Nat→Nat
 | 0,_,p=>p
 | n+1,i,p=>red n (i - 1) (redS i p)
theorem K_1hx(i x y:Nat):redS i (x ^^^ y)=redS i x ^^^ redS i y:=by
 have hb:∀ z:Nat,(z / 2 ^ i % 2=1)↔z.testBit i=true:=fun z=>by
  rw[Nat.testBit_eq_decide_div_mod_eq];simp
 unfold redS
 simp only[hb,Nat.testBit_xor]
 have e1:∀ c:Nat,(x ^^^ c) ^^^ (y ^^^ c)=x ^^^ y:=fun c=>by
  have:(x ^^^ c) ^^^ (y ^^^ c)=(x ^^^ y) ^^^ (c ^^^ c):=by ac_rfl
  rw[this,Nat.xor_self,Nat.xor_zero]
 have e2:∀ c:Nat,(x ^^^ y) ^^^ c=x ^^^ (y ^^^ c):=fun c=>by ac_rfl
 have e3:∀ c:Nat,(x ^^^ y) ^^^ c=(x ^^^ c) ^^^ y:=fun c=>by ac_rfl
 cases hx:x.testBit i <;> cases hy:y.testBit i
 ·simp
 ·simpa using e2 _
 ·simpa using e3 _
 ·simpa using (e1 _).symm
theorem K_1dc:∀ (n i x y:Nat),red n i (x ^^^ y)=red n i x ^^^ red n i y
 | 0,_,_,_=>rfl
 | n+1,i,x,y=>by simp only[red,K_1hx,K_1dc n]
def xts:Nat→Nat→Nat
 | 0,a=>a
 | n+1,a=>xt (xts n a)
theorem K_1gu:∀ a,a<256→∀ i,i<8→red 7 14 (a*2 ^ i)=xts i a:=by decide+kernel
theorem K_1du{a b:Nat}(ha:a<256):∀ (n i p:Nat),n+i=8→mulG n (xts i a) (b / 2 ^ i) (red 7 14 p)=red 7 14 (pol n i a b p)
 | 0,_,_,_=>rfl
 | n+1,i,p,h=>by
  have ih:=K_1du ha (b:=b) n (i+1) (if b / 2 ^ i % 2=1 then p ^^^ (a*2 ^ i) else p) (by omega)
  simp only[mulG,pol]
  rw[←ih]
  have e1:b / 2 ^ i / 2=b / 2 ^ (i+1):=by rw[Nat.div_div_eq_div_mul,Nat.pow_succ]
  rw[e1]
  have e2:(if b / 2 ^ i % 2=1 then red 7 14 p ^^^ xts i a else red 7 14 p)=red 7 14 (if b / 2 ^ i % 2=1 then p ^^^ (a*2 ^ i) else p):=by
   split
   ·rw[K_1dc,K_1gu a ha i (by omega)]
   ·rfl
  rw[e2];rfl
theorem K_1js{a b:Nat}(ha:a<256):red 7 14 (pol 8 0 a b 0)=mul a b:=by
 have:=K_1du ha (b:=b) 8 0 0 rfl
 rw[←this]
 simp[mul,xts]
 rfl
theorem K_1fw{a b:Nat}(ha:a<256):∀ (n i p:Nat),n+i=8→p<32768→pol n i a b p<32768
 | 0,_,_,_,hp=>hp
 | n+1,i,p,h,hp=>by
  unfold pol
  refine K_1fw ha n (i+1) _ (by omega) ?_
  split
  ·refine Nat.xor_lt_two_pow (n:=15) hp ?_
   have:2 ^ i≤2 ^ 7:=Nat.pow_le_pow_right (by decide) (by omega)
   have:=Nat.mul_le_mul (show a≤255 by omega) this
   omega
  ·exact hp
theorem K_1k7{i p:Nat}(hi:i≤14)(hp:p<32768):redS i p<32768:=by
 unfold redS
 split
 ·refine Nat.xor_lt_two_pow (n:=15) hp ?_
  have:2 ^ (i - 8)≤2 ^ 6:=Nat.pow_le_pow_right (by decide) (by omega)
  have:=Nat.mul_le_mul (show 283≤283 by omega) this
  omega
 ·exact hp
end Go.Gf

set_option linter.unusedVariables false
namespace Go.Sh
open Go.Fw Go.Gf Go.RowKit Go.Proofs.Tryd
theorem xor8{a b:Nat}(ha:a<256)(hb:b<256):bits .xor .u8 (a:Int) (b:Int)=((a ^^^ b:Nat):Int):=(K_bq (k:=.u8) rfl ha hb).2.2
theorem and8{a b:Nat}(ha:a<256)(hb:b<256):bits .and .u8 (a:Int) (b:Int)=((a &&& b:Nat):Int):=(K_bq (k:=.u8) rfl ha hb).1
theorem xor64{a b:Nat}(ha:a<4611686018427387904)(hb:b<4611686018427387904):bits .xor .i64 (a:Int) (b:Int)=((a ^^^ b:Nat):Int):=by
 have ha':a % 2 ^ 64=a:=Nat.mod_eq_of_lt (by omega)
 have hb':b % 2 ^ 64=b:=Nat.mod_eq_of_lt (by omega)
 have hx:a ^^^ b<2 ^ 62:=Nat.xor_lt_two_pow (by omega) (by omega)
 show IntKind.i64.wrap _=_
 have e:((BitVec.ofInt 64 (a:Int) ^^^ BitVec.ofInt 64 (b:Int)).toNat:Int)=((a ^^^ b:Nat):Int):=by
  simp only[BitVec.ofInt_natCast,BitVec.toNat_xor,BitVec.toNat_ofNat,ha',hb']
 exact(congrArg IntKind.i64.wrap e).trans (wn64 (by omega))
theorem shl8{a:Nat}(k:Nat):IntKind.u8.wrap ((a:Int)*2 ^ k)=((a*2 ^ k % 256:Nat):Int):=by
 rw[IntKind.wrap_u8];simp
theorem K_1f8(K:Nat):∀ (d n a b p:Nat),d≤8→a<256→p<256→b<2 ^ d→d<n→K_2c K n (a:Int) (b:Int) (p:Int)=some (.norm (((mulG d a b p:Nat):Int),())):=by
 intro d
 induction d with
 | zero=>
  intro n a b p hd ha hp hb hn
  obtain⟨n,rfl⟩:∃ m,n=m+1:=⟨n - 1,by omega⟩
  have:b=0:=by simpa using hb
  subst this
  show K_3z K (K_2c K n) (a:Int) ((0:Nat):Int) (p:Int)=_
  simp[K_3z,mulG]
 | succ d ih=>
  intro n a b p hd ha hp hb hn
  obtain⟨n,rfl⟩:∃ m,n=m+1:=⟨n - 1,by omega⟩
  show K_3z K (K_2c K n) (a:Int) (b:Int) (p:Int)=_
  by_cases h0:b=0
  ·subst h0
   simp[K_3z,K_184]
  ·have hb256:b<256:=by
    have:2 ^ (d+1)≤2 ^ 8:=Nat.pow_le_pow_right (by decide) hd
    omega
   have e0:(((b:Nat):Int) != 0)=true:=by simp;omega
   have e1:bits .and .u8 (b:Int) 1=((b % 2:Nat):Int):=by
    have:=and8 hb256 (show 1<256 by decide)
    rw[Nat.and_one_is_mod]at this;exact this
   have e2:bits .and .u8 (a:Int) 128=((a &&& 128:Nat):Int):=and8 ha (show 128<256 by decide)
   have e3:IntKind.u8.wrap ((a:Int)*2 ^ 1)=((a*2 % 256:Nat):Int):=by rw[shl8]
   have e4:bits .xor .u8 ((a*2 % 256:Nat):Int) 27=(((a*2 % 256) ^^^ 27:Nat):Int):=xor8 (by omega) (show 27<256 by decide)
   have e5:Int.fdiv (b:Int) (2 ^ 1)=((b / 2:Nat):Int):=K_jf b 1
   have hs:K_7c K (a:Int) (p:Int) (((b % 2:Nat):Int) != 0)=some (.norm (((if b % 2=1 then p ^^^ a else p:Nat):Int),())):=by
    unfold K_7c
    by_cases h1:b % 2=1
    ·rw[h1,xor8 hp ha];simp
    ·have h2:b % 2=0:=by omega
     rw[h2];simp
   have hp':(if b % 2=1 then p ^^^ a else p)<256:=by
    split
    ·exact Nat.xor_lt_two_pow (n:=8) hp ha
    ·exact hp
   have ih':=ih n (xt a) (b / 2) _ (by omega) xt_lt hp' (by rw[Nat.pow_succ]at hb;omega) (by omega)
   unfold K_3z
   rw[e0,if_pos rfl,e1,hs,J_bs]
   simp only[e2,e3,e4,e5]
   rw[mulG,←ih']
   by_cases hx:a &&& 128=0
   ·have:xt a=a*2 % 256:=by unfold xt;rw[if_pos hx]
    rw[hx,this];simp
   ·have:xt a=(a*2 % 256) ^^^ 27:=by unfold xt;rw[if_neg hx]
    have h3:((((a &&& 128:Nat):Int)) != 0)=true:=by simp;omega
    rw[this,h3,if_pos rfl]
theorem K_1iu{K:Nat}(hK:300≤K){a b:Nat}(ha:a<256)(hb:b<256):K_l K (a:Int) (b:Int)=some (((mul a b:Nat):Int),()):=by
 have h:=K_1f8 K 8 K a b 0 (by decide) ha (by decide) hb (by omega)
 have h:K_2c K K (a:Int) (b:Int) 0=_:=h
 unfold K_l
 rw[h,J_bs]
 rfl
theorem shk{i:Nat}(hi:i<64):(min (Int.toNat (IntKind.u64.wrap (i:Int))) IntKind.i64.bits)=i:=by
 have e:IntKind.u64.wrap (i:Int)=(i:Int):=by rw[IntKind.wrap_u64];omega
 rw[e,J_tn]
 exact Nat.min_eq_left (by simp only[IntKind.bits];omega)
theorem shp{i:Nat}(hi:i<64):(0:Int)≤IntKind.u64.wrap (i:Int):=by rw[IntKind.wrap_u64];omega
theorem shl64{a i:Nat}(h:a*2 ^ i<9223372036854775808):IntKind.i64.wrap ((a:Int)*2 ^ i)=((a*2 ^ i:Nat):Int):=by
 have e:((a:Int)*2 ^ i)=((a*2 ^ i:Nat):Int):=by simp
 rw[e,wn64 h]
theorem bit64{v i:Nat}:Int.tmod (Int.fdiv (v:Int) (2 ^ i)) 2=((v / 2 ^ i % 2:Nat):Int):=by
 rw[K_jf];exact K_63 (v / 2 ^ i) 2
theorem K_1gt(K:Nat){a b:Nat}(ha:a<256)(hb:b<256):∀ (d i n p:Nat),d+i=8→d<n→p<32768→K_4q K n (a:Int) (b:Int) (p:Int) (i:Int)=some (.norm (((pol d i a b p:Nat):Int),())):=by
 intro d
 induction d with
 | zero=>
  intro i n p hi hn hp
  obtain⟨n,rfl⟩:∃ m,n=m+1:=⟨n - 1,by omega⟩
  have:i=8:=by omega
  subst this
  show K_90 K (K_4q K n) (a:Int) (b:Int) (p:Int) ((8:Nat):Int)=_
  simp[K_90,pol]
 | succ d ih=>
  intro i n p hi hn hp
  obtain⟨n,rfl⟩:∃ m,n=m+1:=⟨n - 1,by omega⟩
  show K_90 K (K_4q K n) (a:Int) (b:Int) (p:Int) (i:Int)=_
  have h8:decide ((i:Int)<8)=true:=by simp;omega
  have hw:IntKind.i64.wrap ((i:Int)+1)=((i+1:Nat):Int):=by rw[w64 (by omega) (by omega)];rfl
  have hai:a*2 ^ i<32768:=by
   have:2 ^ i≤2 ^ 7:=Nat.pow_le_pow_right (by decide) (by omega)
   have:=Nat.mul_le_mul (show a≤255 by omega) this
   omega
  have hx:p ^^^ (a*2 ^ i)<32768:=Nat.xor_lt_two_pow (n:=15) hp hai
  unfold K_90
  rw[h8,if_pos rfl,if_pos (shp (by omega)),if_pos (shp (by omega)),wn64 (n:=b) (by omega),shk (by omega),bit64,wn64 (n:=a) (by omega),shl64 (by omega),xor64 (by omega) (by omega),hw]
  by_cases h1:b / 2 ^ i % 2=1
  ·have e1:((((b / 2 ^ i % 2:Nat):Int)) == 1)=true:=by rw[h1];rfl
   rw[e1,if_pos rfl,ih (i+1) n _ (by omega) (by omega) hx,pol,if_pos h1]
  ·have h2:b / 2 ^ i % 2=0:=by omega
   have e1:((((b / 2 ^ i % 2:Nat):Int)) == 1)=false:=by rw[h2];rfl
   rw[e1,if_neg (by decide),ih (i+1) n _ (by omega) (by omega) hp,pol,if_neg h1]
theorem K_1gw(K:Nat):∀ (d i n p:Nat),i=d+7→d≤7→d<n→p<32768→K_39 K n (p:Int) (i:Int)=some (.norm (((red d i p:Nat):Int),())):=by
 intro d
 induction d with
 | zero=>
  intro i n p hi hd hn hp
  obtain⟨n,rfl⟩:∃ m,n=m+1:=⟨n - 1,by omega⟩
  subst hi
  show K_8i K (K_39 K n) (p:Int) ((7:Nat):Int)=_
  simp[K_8i,red]
 | succ d ih=>
  intro i n p hi hd hn hp
  obtain⟨n,rfl⟩:∃ m,n=m+1:=⟨n - 1,by omega⟩
  show K_8i K (K_39 K n) (p:Int) (i:Int)=_
  have h8:decide ((i:Int)≥8)=true:=by simp;omega
  have hw:IntKind.i64.wrap ((i:Int) - 1)=((i - 1:Nat):Int):=by rw[w64 (by omega) (by omega)];omega
  have hw8:IntKind.i64.wrap ((i:Int) - 8)=((i - 8:Nat):Int):=by rw[w64 (by omega) (by omega)];omega
  have hai:283*2 ^ (i - 8)<32768:=by
   have:2 ^ (i - 8)≤2 ^ 6:=Nat.pow_le_pow_right (by decide) (by omega)
   omega
  have hx:=K_1k7 (i:=i) (by omega) hp
  have e283:IntKind.i64.wrap (283*2 ^ (i - 8))=((283*2 ^ (i - 8):Nat):Int):=shl64 (a:=283) (by omega)
  unfold K_8i
  rw[h8,if_pos rfl,if_pos (shp (by omega)),hw8,if_pos (shp (by omega)),shk (by omega),shk (by omega),bit64,e283,xor64 (by omega) (by omega),hw]
  have ih':=ih (i - 1) n (redS i p) (by omega) (by omega) (by omega) hx
  rw[red,←ih']
  by_cases h1:p / 2 ^ i % 2=1
  ·have e1:((((p / 2 ^ i % 2:Nat):Int)) == 1)=true:=by rw[h1];rfl
   rw[e1,if_pos rfl,redS,if_pos h1]
  ·have h2:p / 2 ^ i % 2=0:=by omega
   have e1:((((p / 2 ^ i % 2:Nat):Int)) == 1)=false:=by rw[h2];rfl
   rw[e1,if_neg (by decide),redS,if_neg h1]
theorem K_1cn{K:Nat}(hK:300≤K){a b:Nat}(ha:a<256)(hb:b<256):K_aj K (a:Int) (b:Int)=some (((mul a b:Nat):Int),()):=by
 have h0:=K_1gt K ha hb 8 0 K 0 rfl (by omega) (by decide)
 have h0:K_4q K K (a:Int) (b:Int) 0 0=_:=h0
 have h1:=K_1gw K 7 14 K (pol 8 0 a b 0) rfl (by decide) (by omega) (K_1fw ha 8 0 0 rfl (by decide))
 have h1:K_39 K K ((pol 8 0 a b 0:Nat):Int) 14=_:=h1
 have e:IntKind.u8.wrap ((mul a b:Nat):Int)=((mul a b:Nat):Int):=by
  have:=K_1h6 (b:=b) ha
  rw[IntKind.wrap_u8];omega
 unfold K_aj
 rw[h0,J_bs]
 show (K_39 K K ((pol 8 0 a b 0:Nat):Int) 14).bind _=_
 rw[h1,J_bs]
 show some (IntKind.u8.wrap ((red 7 14 (pol 8 0 a b 0):Nat):Int),())=_
 rw[K_1js ha,e]
end Go.Sh

set_option maxRecDepth 100000
namespace Go.Gf
theorem K_1lw{a b:Nat}(ha:a<256)(hb:b<256):xt (a ^^^ b)=xt a ^^^ xt b:=by
 have hh:∀ x,x<256→x &&& 128=0∨x &&& 128=128:=by decide+kernel
 have em:(a ^^^ b)*2 % 256=(a*2 % 256) ^^^ (b*2 % 256):=by
  have e1:∀ x:Nat,x*2 % 256=(x <<< 1) % 2 ^ 8:=fun x=>by rw[Nat.shiftLeft_eq]
  rw[e1,e1,e1,Nat.shiftLeft_xor_distrib,Nat.xor_mod_two_pow]
 have ea:(a ^^^ b) &&& 128=(a &&& 128) ^^^ (b &&& 128):=Nat.and_xor_distrib_right ..
 unfold xt
 rw[ea,em]
 obtain⟨x,hx⟩:∃ x,x=a*2 % 256:=⟨_,rfl⟩
 obtain⟨y,hy⟩:∃ y,y=b*2 % 256:=⟨_,rfl⟩
 rw[←hx,←hy]
 rcases hh a ha with h1 | h1 <;> rcases hh b hb with h2 | h2 <;> rw[h1,h2]
 ·rfl
 ·rw[if_neg (by decide),if_pos rfl,if_neg (by decide)];ac_rfl
 ·rw[if_neg (by decide),if_neg (by decide),if_pos rfl];ac_rfl
 ·rw[if_pos (by decide),if_neg (by decide),if_neg (by decide)]
  have:(x ^^^ 27) ^^^ (y ^^^ 27)=(x ^^^ y) ^^^ (27 ^^^ 27):=by ac_rfl
  rw[this,Nat.xor_self,Nat.xor_zero]
theorem K_11v:∀ (n a a' m p p':Nat),a<256→a'<256→mulG n (a ^^^ a') m (p ^^^ p')=mulG n a m p ^^^ mulG n a' m p'
 | 0,_,_,_,_,_,_,_=>rfl
 | n+1,a,a',m,p,p',ha,ha'=>by
  unfold mulG
  rw[K_1lw ha ha']
  by_cases c:m % 2=1
  ·rw[if_pos c,if_pos c,if_pos c]
   have:(p ^^^ p') ^^^ (a ^^^ a')=(p ^^^ a) ^^^ (p' ^^^ a'):=by ac_rfl
   rw[this]
   exact K_11v n _ _ _ _ _ xt_lt xt_lt
  ·rw[if_neg c,if_neg c,if_neg c]
   exact K_11v n _ _ _ _ _ xt_lt xt_lt
theorem K_1km{a b:Nat}(ha:a<256)(hb:b<256)(m:Nat):mul (a ^^^ b) m=mul a m ^^^ mul b m:=K_11v 8 a b m 0 0 ha hb
theorem K_141(m n:Nat):(m ^^^ n) % 2=(m % 2+n % 2) % 2:=by
 have h:=Nat.testBit_xor m n 0
 rw[Nat.testBit_zero,Nat.testBit_zero,Nat.testBit_zero]at h
 rcases Nat.mod_two_eq_zero_or_one m with h1 | h1 <;> rcases Nat.mod_two_eq_zero_or_one n with h2 | h2 <;> rcases Nat.mod_two_eq_zero_or_one (m ^^^ n) with h3 | h3 <;> rw[h1,h2,h3]at h <;> rw[h1,h2,h3] <;> simp at h ⊢
theorem K_17s:∀ (n a m m' p p':Nat),mulG n a (m ^^^ m') (p ^^^ p')=mulG n a m p ^^^ mulG n a m' p'
 | 0,_,_,_,_,_=>rfl
 | n+1,a,m,m',p,p'=>by
  unfold mulG
  have e1:(m ^^^ m') / 2=m / 2 ^^^ m' / 2:=Nat.xor_div_two
  have e2:(m ^^^ m') % 2=(m % 2+m' % 2) % 2:=K_141 m m'
  rw[e1]
  have key:(if (m ^^^ m') % 2=1 then p ^^^ p' ^^^ a else p ^^^ p')=(if m % 2=1 then p ^^^ a else p) ^^^ (if m' % 2=1 then p' ^^^ a else p'):=by
   rw[e2]
   rcases Nat.mod_two_eq_zero_or_one m with h1 | h1 <;> rcases Nat.mod_two_eq_zero_or_one m' with h2 | h2 <;> rw[h1,h2]
   ·rfl
   ·rw[if_pos (by decide),if_neg (by decide),if_pos rfl];ac_rfl
   ·rw[if_pos (by decide),if_pos rfl,if_neg (by decide)];ac_rfl
   ·rw[if_neg (by decide),if_pos rfl,if_pos rfl]
    have:(p ^^^ a) ^^^ (p' ^^^ a)=(p ^^^ p') ^^^ (a ^^^ a):=by ac_rfl
    rw[this,Nat.xor_self,Nat.xor_zero]
  rw[key]
  exact K_17s n _ _ _ _ _
theorem K_1i2(a m m':Nat):mul a (m ^^^ m')=mul a m ^^^ mul a m':=K_17s 8 a m m' 0 0
structure F where
 n:Nat
 lt:n<256
deriving DecidableEq
theorem F.ext'{a b:F}(h:a.n=b.n):a=b:=by
 cases a;cases b;cases h;rfl
instance:Add F:=⟨fun a b=>⟨a.n ^^^ b.n,Nat.xor_lt_two_pow (n:=8) a.lt b.lt⟩⟩
instance:Mul F:=⟨fun a b=>⟨mul a.n b.n,K_1h6 a.lt⟩⟩
instance:OfNat F 0:=⟨⟨0,by decide⟩⟩
instance:OfNat F 1:=⟨⟨1,by decide⟩⟩
theorem F.add_n(a b:F):(a+b).n=a.n ^^^ b.n:=rfl
theorem F.zero_n:(0:F).n=0:=rfl
theorem F.add_comm(a b:F):a+b=b+a:=F.ext' (Nat.xor_comm _ _)
theorem F.add_assoc(a b c:F):a+b+c=a+(b+c):=F.ext' (Nat.xor_assoc _ _ _)
theorem F.add_left_comm(a b c:F):a+(b+c)=b+(a+c):=by rw[←F.add_assoc,F.add_comm a b,F.add_assoc]
theorem F.add_zero(a:F):a+0=a:=F.ext' (Nat.xor_zero _)
theorem F.zero_add(a:F):0+a=a:=F.ext' (Nat.zero_xor _)
theorem F.add_self(a:F):a+a=0:=F.ext' (Nat.xor_self _)
theorem F.add_cancel(a b:F):a+(a+b)=b:=by rw[←F.add_assoc,F.add_self,F.zero_add]
theorem F.add_mul(a b c:F):(a+b)*c=a*c+b*c:=F.ext' (K_1km a.lt b.lt _)
theorem F.mul_add(a b c:F):a*(b+c)=a*b+a*c:=F.ext' (K_1i2 _ _ _)
theorem F.eq_of_add{a b:F}(h:a+b=0):a=b:=by
 have:=congrArg (· +b) h
 simp only[F.add_assoc,F.add_self,F.add_zero,F.zero_add]at this
 exact this
theorem F.zero_mul(a:F):0*a=0:=by
 have:=F.add_mul 0 0 a
 rw[F.add_self,F.add_self]at this
 exact this
theorem F.mul_zero(a:F):a*0=0:=by
 have:=F.mul_add a 0 0
 rw[F.add_self,F.add_self]at this
 exact this
def bit(k:Nat):F:=if h:k<8 then⟨2 ^ k,Nat.lt_of_lt_of_le (Nat.pow_lt_pow_right (by decide) h) (Nat.le_refl _)⟩ else 0
theorem F.lin{f g:F→F}(hf:∀ a b,f (a+b)=f a+f b)(hg:∀ a b,g (a+b)=g a+g b)(hb:∀ k,k<8→f (bit k)=g (bit k)):∀ a,f a=g a:=by
 have key:∀ n,n≤8→∀ a:F,a.n<2 ^ n→f a=g a:=by
  intro n
  induction n with
  | zero=>
   intro _ a h
   have h0:a=0:=F.ext' (by have:(2:Nat) ^ 0=1:=rfl;rw[F.zero_n];omega)
   subst h0
   have h1:=hf 0 0
   have h2:=hg 0 0
   rw[F.add_self,F.add_self]at h1 h2
   rw[h1,h2]
  | succ n ih=>
   intro hn a h
   have h2:(2:Nat) ^ (n+1)=2 ^ n+2 ^ n:=by rw[Nat.pow_succ];omega
   by_cases c:a.n<2 ^ n
   ·exact ih (by omega) a c
   ·have hx:a.n ^^^ 2 ^ n<2 ^ n:=by
     have hbit:a.n.testBit n=true:=by
      rw[Nat.testBit_eq_decide_div_mod_eq]
      have:a.n / 2 ^ n=1:=by
       have hp:0<2 ^ n:=Nat.two_pow_pos n
       apply Nat.div_eq_of_lt_le <;> omega
      rw[this];decide
     apply Nat.lt_pow_two_of_testBit
     intro i hi
     rw[Nat.testBit_xor,Nat.testBit_two_pow]
     by_cases e:n=i
     ·subst e;simp[hbit]
     ·have:a.n<2 ^ i:=Nat.lt_of_lt_of_le h (Nat.pow_le_pow_right (by decide) (by omega))
      simp[e,Nat.testBit_lt_two_pow this]
    have hbn:(bit n).n=2 ^ n:=by unfold bit;rw[dif_pos (by omega)]
    have ea:a=(a+bit n)+bit n:=by rw[F.add_assoc,F.add_self,F.add_zero]
    rw[ea,hf,hg,hb n (by omega),ih (by omega) (a+bit n) (by rw[F.add_n,hbn];exact hx)]
 intro a
 exact key 8 (Nat.le_refl _) a a.lt
theorem F.mul_comm(a b:F):a*b=b*a:=by
 have h:∀ i,i<8→∀ j,j<8→bit i*bit j=bit j*bit i:=by decide+kernel
 refine F.lin (f:=fun a=>a*b) (g:=fun a=>b*a) (fun x y=>F.add_mul x y b) (fun x y=>F.mul_add b x y) (fun i hi=>?_) a
 exact F.lin (f:=fun b=>bit i*b) (g:=fun b=>b*bit i) (fun x y=>F.mul_add _ x y) (fun x y=>F.add_mul x y _) (fun j hj=>h i hi j hj) b
theorem F.mul_assoc(a b c:F):a*b*c=a*(b*c):=by
 have h:∀ i,i<8→∀ j,j<8→∀ k,k<8→bit i*bit j*bit k=bit i*(bit j*bit k):=by decide+kernel
 refine F.lin (f:=fun a=>a*b*c) (g:=fun a=>a*(b*c)) (fun x y=>by simp only[F.add_mul]) (fun x y=>F.add_mul x y _) (fun i hi=>?_) a
 refine F.lin (f:=fun b=>bit i*b*c) (g:=fun b=>bit i*(b*c)) (fun x y=>by simp only[F.add_mul,F.mul_add]) (fun x y=>by simp only[F.add_mul,F.mul_add]) (fun j hj=>?_) b
 exact F.lin (f:=fun c=>bit i*bit j*c) (g:=fun c=>bit i*(bit j*c)) (fun x y=>F.mul_add _ x y) (fun x y=>by simp only[F.mul_add]) (fun k hk=>h i hi j hj k hk) c
theorem F.mul_left_comm(a b c:F):a*(b*c)=b*(a*c):=by rw[←F.mul_assoc,F.mul_comm a b,F.mul_assoc]
theorem F.one_mul(a:F):1*a=a:=
 F.lin (f:=fun a=>1*a) (g:=fun a=>a) (fun x y=>F.mul_add _ x y) (fun _ _=>rfl) (by decide+kernel) a
theorem F.mul_one(a:F):a*1=a:=by rw[F.mul_comm,F.one_mul]
def F.pow(a:F):Nat→F
 | 0=>1
 | n+1=>F.pow a n*a
theorem F.pow_zero(a:F):F.pow a 0=1:=rfl
theorem F.pow_succ(a:F)(n:Nat):F.pow a (n+1)=F.pow a n*a:=rfl
theorem F.pow_add(a:F)(m:Nat):∀ n,F.pow a (m+n)=F.pow a m*F.pow a n
 | 0=>(F.mul_one _).symm
 | n+1=>by rw[←Nat.add_assoc,F.pow_succ,F.pow_add a m n,F.pow_succ,F.mul_assoc]
theorem F.pow_mul(a:F)(m:Nat):∀ n,F.pow a (m*n)=F.pow (F.pow a m) n
 | 0=>rfl
 | n+1=>by rw[Nat.mul_succ,F.pow_add,F.pow_mul a m n,F.pow_succ]
theorem F.one_pow:∀ n,F.pow 1 n=1
 | 0=>rfl
 | n+1=>by rw[F.pow_succ,F.one_pow n,F.mul_one]
def invG:Nat→F→F→F
 | 0,_,v=>v
 | n+1,b,v=>invG n (b*b) (v*(b*b))
def F.inv(b:F):F:=invG 7 b 1
theorem F.mul_inv{a:F}(h:a≠0):a*a.inv=1:=by
 have key:∀ n,n<256→n≠0→∀ h:n<256,(⟨n,h⟩:F)*F.inv ⟨n,h⟩=1:=by decide+kernel
 exact key a.n a.lt (fun e=>h (F.ext' e)) a.lt
theorem F.inv_mul{a:F}(h:a≠0):a.inv*a=1:=by rw[F.mul_comm,F.mul_inv h]
theorem F.inv_zero:F.inv 0=0:=by decide+kernel
theorem F.mul_eq_zero{a b:F}(h:a*b=0):a=0∨b=0:=by
 by_cases ha:a=0
 ·exact .inl ha
 ·right
  have:=congrArg (a.inv* ·) h
  simp only[←F.mul_assoc,F.inv_mul ha,F.one_mul,F.mul_zero]at this
  exact this
theorem F.mul_ne_zero{a b:F}(ha:a≠0)(hb:b≠0):a*b≠0:=fun h=>(F.mul_eq_zero h).elim ha hb
theorem F.mul_cancel{a b c:F}(ha:a≠0)(h:a*b=a*c):b=c:=by
 have:=congrArg (a.inv* ·) h
 simp only[←F.mul_assoc,F.inv_mul ha,F.one_mul]at this
 exact this
theorem F.add_ne_zero{a b:F}(h:a≠b):a+b≠0:=fun e=>h (F.eq_of_add e)
theorem F.one_ne_zero:(1:F)≠0:=by decide
theorem F.inv_ne_zero{a:F}(h:a≠0):a.inv≠0:=fun e=>F.one_ne_zero (by rw[←F.mul_inv h,e,F.mul_zero])
theorem F.eq_inv{a b:F}(h:a*b=1):b=a.inv:=by
 have ha:a≠0:=fun e=>F.one_ne_zero (by rw[←h,e,F.zero_mul])
 exact F.mul_cancel ha (by rw[h,F.mul_inv ha])
def F.three:F:=⟨3,by decide⟩
theorem K_1ah:F.pow F.three 255=1:=by decide+kernel
theorem K_1k8{k:Nat}(h0:0<k)(h:k<255):F.pow F.three k≠1:=by
 have key:∀ k,k<255→0<k→F.pow F.three k≠1:=by decide+kernel
 exact key k h h0
theorem K_15v(k:Nat):F.pow F.three k≠0:=by
 induction k with
 | zero=>exact F.one_ne_zero
 | succ k ih=>exact F.mul_ne_zero ih (by decide)
theorem K_12d(k:Nat):F.pow F.three (k % 255)=F.pow F.three k:=by
 have:=Nat.div_add_mod k 255
 rw[←this,F.pow_add,F.pow_mul,K_1ah,F.one_pow,F.one_mul,Nat.mul_add_mod,Nat.mod_mod]
theorem K_jg{i j:Nat}(hi:i<255)(hj:j<255)(h:F.pow F.three i=F.pow F.three j):i=j:=by
 have key:∀ i j,i≤j→j<255→F.pow F.three i=F.pow F.three j→i=j:=by
  intro i j hij hj h
  obtain⟨d,rfl⟩:∃ d,j=i+d:=⟨j - i,by omega⟩
  cases d with
  | zero=>rfl
  | succ d=>
   rw[F.pow_add]at h
   have:=F.mul_cancel (K_15v i) ((F.mul_one _).trans h)
   exact absurd this.symm (K_1k8 (by omega) (by omega))
 rcases Nat.le_total i j with hc | hc
 ·exact key i j hc hj h
 ·exact(key j i hc hi h.symm).symm
end Go.Gf

namespace Go.Gf
def ev:List F→F→F
 | [],_=>0
 | c :: l,x=>c+x*ev l x
theorem K_p3(x:F):ev [] x=0:=rfl
theorem K_40(c:F)(l:List F)(x:F):ev (c :: l) x=c+x*ev l x:=rfl
def syn(r:F):List F→List F
 | []=>[]
 | d :: l=>ev (d :: l) r :: syn r l
theorem K_14b(r:F):∀ l,(syn r l).length=l.length
 | []=>rfl
 | _ :: l=>by simp[syn,K_14b r l]
theorem K_1g7(r:F):∀ (l:List F) (x:F),ev l x=ev l r+(x+r)*(match l with | []=>0 | _ :: l'=>ev (syn r l') x)
 | [],x=>by simp[ev,F.mul_zero,F.add_zero]
 | [c],x=>by simp[ev,syn,F.mul_zero,F.add_zero]
 | c :: d :: l,x=>by
  have ih:=K_1g7 r (d :: l) x
  simp only at ih
  simp only[syn]
  rw[K_40 c,K_40 c (d :: l) r,ih,K_40 (ev (d :: l) r)]
  obtain⟨A,hA⟩:∃ A,ev (d :: l) r=A:=⟨_,rfl⟩
  obtain⟨B,hB⟩:∃ B,ev (syn r l) x=B:=⟨_,rfl⟩
  rw[hA,hB]
  simp only[F.mul_add,F.add_mul,F.add_assoc,F.add_comm,F.add_left_comm,F.mul_assoc,F.mul_comm,F.mul_left_comm,F.add_cancel,F.add_self,F.add_zero,F.zero_add]
theorem K_15s(l:List F)(x:F):∀ n,ev (l ++ List.replicate n 0) x=ev l x:=by
 induction l with
 | nil=>
  intro n
  induction n with
  | zero=>rfl
  | succ n ih=>
   rw[List.nil_append]at ih
   rw[List.nil_append,List.replicate_succ,K_40,ih,K_p3,F.mul_zero,F.add_zero]
 | cons c l ih=>intro n;rw[List.cons_append,K_40,ih,K_40]
theorem K_1ax(r:F):∀ l,(∀ c∈syn r l,c=0)→∀ c∈l,c=0
 | [],_=>by simp
 | d :: l,h=>by
  have h1:ev (d :: l) r=0:=h _ (by simp[syn])
  have h2:∀ c∈syn r l,c=0:=fun c hc=>h c (by simp[syn,hc])
  have h3:=K_1ax r l h2
  have h4:ev l r=0:=by
   cases l with
   | nil=>rfl
   | cons e l=>exact h2 _ (by simp[syn])
  rw[K_40,h4,F.mul_zero,F.add_zero]at h1
  intro c hc
  rcases List.mem_cons.1 hc with e | e
  ·rw[e];exact h1
  ·exact h3 c e
theorem K_11x:∀ (l:List F) (x:F),(∀ c∈l,c=0)→ev l x=0
 | [],_,_=>rfl
 | c :: l,x,h=>by rw[K_40,h c (by simp),K_11x l x (fun d hd=>h d (by simp[hd])),F.mul_zero,F.add_zero]
theorem K_12k:∀ (rs:List F) (l:List F),rs.Nodup→l.length≤rs.length→(∀ r∈rs,ev l r=0)→∀ c∈l,c=0
 | _,[],_,_,_=>by simp
 | [],c :: l,_,h,_=>by simp at h
 | r :: rs,c :: l,hn,hl,hr=>by
  have hn':=List.nodup_cons.1 hn
  have hq:∀ d∈syn r l,d=0:=by
   refine K_12k rs (syn r l) hn'.2 (by rw[K_14b];simpa using hl) fun r' hr'=>?_
   have h1:=K_1g7 r (c :: l) r'
   simp only at h1
   rw[hr r' (by simp[hr']),hr r (by simp),F.zero_add]at h1
   have hne:r'+r≠0:=F.add_ne_zero fun e=>hn'.1 (e ▸ hr')
   exact(F.mul_eq_zero h1.symm).resolve_left hne
  have hz:=K_1ax r l hq
  have h0:=hr r (by simp)
  rw[K_40,K_11x l r hz,F.mul_zero,F.add_zero]at h0
  intro d hd
  rcases List.mem_cons.1 hd with e | e
  ·rw[e];exact h0
  ·exact hz d e
def addL:List F→List F→List F
 | [],m=>m
 | l,[]=>l
 | a :: l,b :: m=>(a+b) :: addL l m
theorem K_113:∀ l m:List F,l.length=m.length→(addL l m).length=l.length
 | [],m,h=>by simp at h;simp[addL,h]
 | a :: l,[],h=>by simp at h
 | a :: l,b :: m,h=>by simp[addL,K_113 l m (by simpa using h)]
theorem K_1dj(x:F):∀ l m:List F,ev (addL l m) x=ev l x+ev m x
 | [],m=>by rw[K_p3,F.zero_add];rfl
 | a :: l,[]=>by rw[K_p3,F.add_zero];rfl
 | a :: l,b :: m=>by
  show (a+b)+x*ev (addL l m) x=(a+x*ev l x)+(b+x*ev m x)
  rw[K_1dj x l m,F.mul_add]
  simp only[F.add_assoc,F.add_comm,F.add_left_comm]
def IsPoly(n:Nat)(f:F→F):Prop:=∃ l:List F,l.length=n∧∀ x,f x=ev l x
theorem IsPoly.add{n:Nat}{f g:F→F}(h:IsPoly n f)(h':IsPoly n g):IsPoly n (fun x=>f x+g x):=by
 obtain⟨l,hl,e⟩:=h;obtain⟨m,hm,e'⟩:=h'
 exact⟨addL l m,by rw[K_113 _ _ (by omega),hl],fun x=>by rw[K_1dj,←e,←e']⟩
theorem IsPoly.smul{n:Nat}{f:F→F}(h:IsPoly n f)(c:F):IsPoly n (fun x=>f x*c):=by
 obtain⟨l,hl,e⟩:=h
 refine⟨l.map (· *c),by simp[hl],fun x=>?_⟩
 show f x*c=_
 rw[e]
 clear e hl
 induction l with
 | nil=>exact F.zero_mul c
 | cons a l ih=>rw[List.map_cons,K_40,K_40,←ih,F.add_mul,F.mul_assoc]
theorem IsPoly.mono{n m:Nat}{f:F→F}(h:IsPoly n f)(hm:n≤m):IsPoly m f:=by
 obtain⟨l,hl,e⟩:=h
 exact⟨l ++ List.replicate (m - n) 0,by simp[hl];omega,fun x=>by rw[e,K_15s]⟩
theorem IsPoly.zero(n:Nat):IsPoly n (fun _=>0):=IsPoly.mono (n:=0) ⟨[],rfl,fun _=>rfl⟩ (Nat.zero_le n)
theorem IsPoly.const(c:F):IsPoly 1 (fun _=>c):=⟨[c],rfl,fun x=>by rw[K_40,K_p3,F.mul_zero,F.add_zero]⟩
theorem IsPoly.mulX{n:Nat}{f:F→F}(h:IsPoly n f)(a:F):IsPoly (n+1) (fun x=>f x*(x+a)):=by
 have h1:IsPoly (n+1) (fun x=>x*f x):=by
  obtain⟨l,hl,e⟩:=h
  exact⟨0 :: l,by simp[hl],fun x=>by rw[K_40,F.zero_add,←e]⟩
 have h2:=IsPoly.add h1 ((h.smul a).mono (Nat.le_succ n))
 obtain⟨l,hl,e⟩:=h2
 exact⟨l,hl,fun x=>by rw[←e];show f x*(x+a)=x*f x+f x*a;rw[F.mul_add,F.mul_comm x]⟩
theorem IsPoly.ev(l:List F):IsPoly l.length (ev l):=⟨l,rfl,fun _=>rfl⟩
theorem IsPoly.ext{n:Nat}{f g:F→F}(h:IsPoly n f)(h':IsPoly n g){rs:List F}(hn:rs.Nodup)(hl:n≤rs.length)(ha:∀ r∈rs,f r=g r)(x:F):f x=g x:=by
 obtain⟨l,hll,e⟩:=h.add h'
 have hz:=K_12k rs l hn (by omega) fun r hr=>by rw[←e];show f r+g r=0;rw[ha r hr,F.add_self]
 have:=e x
 rw[K_11x l x hz]at this
 exact F.eq_of_add this
def wgt(x xi:F)(i:Nat):Nat→List F→F→F
 | _,[],w=>w
 | k,o :: os,w=>wgt x xi i (k+1) os (if k=i then w else w*((x+o)*(xi+o).inv))
theorem K_12b(xi:F)(i:Nat):∀ (os:List F) (k d:Nat) (f:F→F),IsPoly d f→IsPoly (d+os.length - (if k≤i∧i<k+os.length then 1 else 0)) (fun x=>wgt x xi i k os (f x))
 | [],k,d,f,h=>by
  rw[if_neg (fun c=>by have:=c.2;simp at this;omega)];exact h
 | o :: os,k,d,f,h=>by
  show IsPoly _ (fun x=>wgt x xi i (k+1) os (if k=i then f x else f x*((x+o)*(xi+o).inv)))
  by_cases c:k=i
  ·have:=K_12b xi i os (k+1) d f h
   rw[if_neg (by omega)]at this
   rw[if_pos ⟨by omega,by simp only[List.length_cons];omega⟩]
   have e:d+(o :: os).length - 1=d+os.length - 0:=by rw[List.length_cons];omega
   rw[e]
   simpa[c] using this
  ·have h2:IsPoly (d+1) (fun x=>f x*((x+o)*(xi+o).inv)):=by
    obtain⟨l,hl,e⟩:=(h.mulX o).smul (xi+o).inv
    exact⟨l,hl,fun x=>by rw[←e];show f x*((x+o)*(xi+o).inv)=f x*(x+o)*(xi+o).inv;rw[F.mul_assoc]⟩
   have:=K_12b xi i os (k+1) (d+1) _ h2
   have e:d+(o :: os).length - (if k≤i∧i<k+(o :: os).length then 1 else 0)=d+1+os.length - (if k+1≤i∧i<k+1+os.length then 1 else 0):=by
    have hl:(o :: os).length=os.length+1:=rfl
    rw[hl]
    by_cases q:k+1≤i∧i<k+1+os.length
    ·rw[if_pos q,if_pos (by omega)];omega
    ·rw[if_neg q,if_neg (by omega)];omega
   rw[e]
   simpa[c] using this
theorem K_1ac(x xi:F)(i:Nat):∀ (os:List F) (k:Nat),wgt x xi i k os 0=0
 | [],_=>rfl
 | o :: os,k=>by simp[wgt,F.zero_mul,K_1ac x xi i os]
theorem K_xr(x xi:F)(i:Nat):∀ (os:List F) (k:Nat) (w:F) (j:Nat),os[j]? =some x→k+j≠i→wgt x xi i k os w=0
 | [],_,_,_,h,_=>by simp at h
 | o :: os,k,w,0,h,hne=>by
  obtain rfl:o=x:=by simpa using h
  simp only[wgt]
  rw[if_neg (by omega),F.add_self,F.zero_mul,F.mul_zero,K_1ac]
 | o :: os,k,w,j+1,h,hne=>K_xr x xi i os (k+1) _ j (by simpa using h) (by omega)
theorem K_ub(xi:F)(i:Nat):∀ (os:List F) (k:Nat) (w:F),(∀ j o,os[j]? =some o→k+j≠i→o≠xi)→wgt xi xi i k os w=w
 | [],_,_,_=>rfl
 | o :: os,k,w,h=>by
  have h':∀ j o,os[j]? =some o→k+1+j≠i→o≠xi:=fun j o hj hne=>h (j+1) o (by simpa using hj) (by omega)
  simp only[wgt]
  by_cases c:k=i
  ·rw[if_pos c];exact K_ub xi i os (k+1) w h'
  ·rw[if_neg c,F.mul_inv (F.add_ne_zero fun e=>h 0 o rfl (by omega) e.symm),F.mul_one]
   exact K_ub xi i os (k+1) w h'
def lagG(all:List F)(x:F):Nat→List (F×F)→F→F
 | _,[],v=>v
 | i,p :: ps,v=>lagG all x (i+1) ps (v+wgt x p.1 i 0 all 1*p.2)
def lag(ps:List (F×F))(x:F):F:=lagG (ps.map (·.1)) x 0 ps 0
theorem K_187{all:List F}{n:Nat}(hn:all.length=n):∀ (ps:List (F×F)) (i:Nat) (f:F→F),i+ps.length=n→IsPoly n f→IsPoly n (fun x=>lagG all x i ps (f x))
 | [],_,f,_,h=>h
 | p :: ps,i,f,hi,h=>by
  have hw:=K_12b p.1 i all 0 1 (fun _=>1) (IsPoly.const 1)
  rw[if_pos (by simp at hi;omega)]at hw
  refine K_187 hn ps (i+1) _ (by simp at hi;omega) (h.add (IsPoly.smul (IsPoly.mono hw (by omega)) p.2))
theorem K_1bl(ps:List (F×F)):IsPoly ps.length (lag ps):=
 K_187 (all:=ps.map (·.1)) (by simp) ps 0 (fun _=>0) (by simp) (IsPoly.zero _)
theorem K_1h8{l:List F}(h:l.Nodup){a b:Nat}{y:F}(ha:l[a]? =some y)(hb:l[b]? =some y):a=b:=by
 obtain⟨ha1,ha2⟩:=List.getElem?_eq_some_iff.1 ha
 obtain⟨hb1,hb2⟩:=List.getElem?_eq_some_iff.1 hb
 have hp:=List.pairwise_iff_getElem.1 h
 rcases Nat.lt_trichotomy a b with c | c | c
 ·exact absurd (ha2.trans hb2.symm) (hp a b ha1 hb1 c)
 ·exact c
 ·exact absurd (hb2.trans ha2.symm) (hp b a hb1 ha1 c)
theorem K_1d2{all:List F}(hnd:all.Nodup){x:F}{j:Nat}(hj:all[j]? =some x):∀ (ps:List (F×F)) (i:Nat) (v:F),(∀ t p,ps[t]? =some p→all[i+t]? =some p.1)→
  lagG all x i ps v=v+(if h:i≤j then(match ps[j - i]? with | some p=>p.2 | none=>0) else 0)
 | [],i,v,_=>by simp[lagG,F.add_zero]
 | p :: ps,i,v,h=>by
  have hp:all[i]? =some p.1:=by simpa using h 0 p rfl
  have h':∀ t p,ps[t]? =some p→all[i+1+t]? =some p.1:=fun t q hq=>by
   have:=h (t+1) q (by simpa using hq)
   rwa [show i+(t+1)=i+1+t by omega]at this
  simp only[lagG]
  rw[K_1d2 hnd hj ps (i+1) _ h']
  have inj:∀ a b y,all[a]? =some y→all[b]? =some y→a=b:=fun a b y ha hb=>by
   exact K_1h8 hnd ha hb
  by_cases c:i=j
  ·subst c
   have hx:p.1=x:=Option.some.inj (hp.symm.trans hj)
   rw[dif_neg (by omega),dif_pos (Nat.le_refl _),Nat.sub_self]
   have hw:wgt x p.1 i 0 all 1=1:=by
    rw[hx]
    exact K_ub x i all 0 1 fun t o ht hne e=>hne (by rw[Nat.zero_add];subst e;exact inj t i _ ht hj)
   simp only[List.getElem?_cons_zero]
   rw[hw,F.one_mul,F.add_zero]
  ·have hw:wgt x p.1 i 0 all 1=0:=K_xr x p.1 i all 0 1 j hj (by omega)
   rw[hw,F.zero_mul,F.add_zero]
   by_cases c2:i≤j
   ·rw[dif_pos (by omega),dif_pos c2]
    obtain⟨d,hd⟩:∃ d,j - i=d+1:=⟨j - i - 1,by omega⟩
    rw[hd,show j - (i+1)=d by omega]
    simp
   ·rw[dif_neg (by omega),dif_neg c2]
theorem K_1fz{ps:List (F×F)}(hnd:(ps.map (·.1)).Nodup){p:F×F}(hp:p∈ps):lag ps p.1=p.2:=by
 obtain⟨j,hj,e⟩:=List.getElem_of_mem hp
 have h1:ps[j]? =some p:=by rw[List.getElem?_eq_getElem hj,e]
 have h2:(ps.map (·.1))[j]? =some p.1:=by simp[h1]
 unfold lag
 rw[K_1d2 hnd h2 ps 0 0 (fun t q hq=>by simp[hq]),F.zero_add,dif_pos (Nat.zero_le _),Nat.sub_zero,h1]
theorem K_1ex{ps:List (F×F)}(hnd:(ps.map (·.1)).Nodup){f:F→F}(hf:IsPoly ps.length f)(h:∀ p∈ps,f p.1=p.2)(x:F):lag ps x=f x:=
 IsPoly.ext (K_1bl ps) hf hnd (by simp) (fun r hr=>by
  obtain⟨p,hp,rfl⟩:=List.mem_map.1 hr
  rw[K_1fz hnd hp,h p hp]) x
end Go.Gf

namespace Go.Gf
def horG(x:F):List F→F→F
 | [],v=>v
 | c :: l,v=>horG x l (v*x+c)
def hor(x:F)(l:List F):F:=horG x l 0
theorem K_16e(x:F):∀ (l:List F) (v:F),horG x l v=v*F.pow x l.length+hor x l
 | [],v=>by simp[horG,hor,F.pow_zero,F.mul_one,F.add_zero]
 | c :: l,v=>by
  show horG x l (v*x+c)=_+horG x l (0*x+c)
  rw[K_16e x l,K_16e x l (0*x+c),F.zero_mul,F.zero_add,List.length_cons,F.pow_succ,F.add_mul]
  simp only[F.mul_assoc,F.add_assoc,F.mul_comm x]
theorem K_z7(x:F):hor x []=0:=rfl
theorem K_2k(x c:F)(l:List F):hor x (c :: l)=c*F.pow x l.length+hor x l:=by
 show horG x l (0*x+c)=_
 rw[K_16e,F.zero_mul,F.zero_add]
def xorR:List F→List F→List F
 | a :: l,b :: m=>(a+b) :: xorR l m
 | _,_=>[]
theorem xorR_length:∀ {l m:List F},l.length=m.length→(xorR l m).length=l.length
 | [],m,h=>by cases m <;> simp[xorR]at h ⊢
 | a :: l,[],h=>by simp at h
 | a :: l,b :: m,h=>by simp[xorR,xorR_length (l:=l) (m:=m) (by simpa using h)]
theorem K_11n(x:F):∀ {l m:List F},l.length=m.length→hor x (xorR l m)=hor x l+hor x m
 | [],m,h=>by
  cases m with
  | nil=>exact(F.add_zero _).symm
  | cons b m=>simp at h
 | a :: l,[],h=>by simp at h
 | a :: l,b :: m,h=>by
  have h':l.length=m.length:=by simpa using h
  show hor x ((a+b) :: xorR l m)=_
  rw[K_2k,K_2k,K_2k,K_11n x h',xorR_length h',h',F.add_mul]
  simp only[F.add_assoc,F.add_comm,F.add_left_comm]
def supp:List F→List (F×F)
 | []=>[]
 | c :: l=>if c=0 then supp l else(c,F.pow F.three l.length) :: supp l
theorem K_h6(c:F)(l:List F):supp (c :: l)=if c=0 then supp l else(c,F.pow F.three l.length) :: supp l:=rfl
def sumP(j:Nat):List (F×F)→F
 | []=>0
 | p :: ps=>p.1*F.pow p.2 j+sumP j ps
theorem pow_comm'(a:F)(m n:Nat):F.pow (F.pow a m) n=F.pow (F.pow a n) m:=by rw[←F.pow_mul,←F.pow_mul,Nat.mul_comm]
theorem K_12x(j:Nat):∀ l:List F,hor (F.pow F.three j) l=sumP j (supp l)
 | []=>rfl
 | c :: l=>by
  rw[K_2k,K_12x j l]
  rw[K_h6]
  by_cases h:c=0
  ·rw[if_pos h,h,F.zero_mul,F.zero_add]
  ·rw[if_neg h,sumP,pow_comm']
theorem K_n0:∀ {l:List F} {p:F×F},p∈supp l→∃ i,i<l.length∧p.2=F.pow F.three i
 | [],_,h=>by simp[supp]at h
 | c :: l,p,h=>by
  unfold supp at h
  by_cases hc:c=0
  ·rw[if_pos hc]at h
   obtain⟨i,hi,e⟩:=K_n0 h
   exact⟨i,by simp;omega,e⟩
  ·rw[if_neg hc]at h
   rcases List.mem_cons.1 h with e | e
   ·exact⟨l.length,by simp,by rw[e]⟩
   ·obtain⟨i,hi,e⟩:=K_n0 e
    exact⟨i,by simp;omega,e⟩
theorem K_ms:∀ {l:List F},l.length≤255→((supp l).map (·.2)).Nodup
 | [],_=>by simp[supp]
 | c :: l,h=>by
  have h':l.length≤255:=by simp at h;omega
  unfold supp
  by_cases hc:c=0
  ·rw[if_pos hc];exact K_ms h'
  ·rw[if_neg hc,List.map_cons,List.nodup_cons]
   refine⟨fun hm=>?_,K_ms h'⟩
   obtain⟨p,hp,e⟩:=List.mem_map.1 hm
   obtain⟨i,hi,e2⟩:=K_n0 hp
   have:i=l.length:=K_jg (by simp at h;omega) (by simp at h;omega) (e2.symm.trans e)
   omega
def shiftP(x0:F)(ps:List (F×F)):List (F×F):=ps.map fun p=>(p.1*(p.2+x0),p.2)
theorem K_14n(x0:F)(j:Nat):∀ qs:List (F×F),sumP j (shiftP x0 qs)=sumP (j+1) qs+x0*sumP j qs
 | []=>by simp[shiftP,sumP,F.mul_zero,F.add_zero]
 | q :: qs=>by
  have ih:=K_14n x0 j qs
  show q.1*(q.2+x0)*F.pow q.2 j+sumP j (shiftP x0 qs)=(q.1*F.pow q.2 (j+1)+sumP (j+1) qs)+x0*(q.1*F.pow q.2 j+sumP j qs)
  rw[ih,F.pow_succ]
  obtain⟨A,hA⟩:∃ A,F.pow q.2 j=A:=⟨_,rfl⟩
  obtain⟨B,hB⟩:∃ B,sumP (j+1) qs=B:=⟨_,rfl⟩
  obtain⟨C,hC⟩:∃ C,sumP j qs=C:=⟨_,rfl⟩
  rw[hA,hB,hC]
  simp only[F.mul_add,F.add_mul,F.add_assoc,F.add_comm,F.add_left_comm,F.mul_assoc,F.mul_comm,F.mul_left_comm]
theorem K_19f(x0:F)(ps:List (F×F)):(shiftP x0 ps).map (·.2)=ps.map (·.2):=by
 simp[shiftP,List.map_map,Function.comp_def]
theorem K_14r:∀ {qs:List (F×F)},(∀ p∈qs,p.1=0)→sumP 0 qs=0
 | [],_=>rfl
 | q :: qs,h=>by rw[sumP,h q (by simp),F.zero_mul,F.zero_add];exact K_14r fun p hp=>h p (by simp[hp])
theorem vdm(m:Nat):∀ (ps:List (F×F)),(ps.map (·.2)).Nodup→ps.length≤m→(∀ j,j<m→sumP j ps=0)→∀ p∈ps,p.1=0:=by
 induction m with
 | zero=>
  intro ps _ hl _ p hp
  cases ps with
  | nil=>cases hp
  | cons q ps=>simp at hl
 | succ m ih=>
  intro ps hn hl hs
  cases ps with
  | nil=>intro p hp;cases hp
  | cons q ps=>
   have hn':q.2 ∉ ps.map (·.2)∧(ps.map (·.2)).Nodup:=List.nodup_cons.1 hn
   have h1:∀ j,j<m→sumP j (shiftP q.2 ps)=0:=fun j hj=>by
    have e:=K_14n q.2 j (q :: ps)
    have e2:sumP j (shiftP q.2 (q :: ps))=q.1*(q.2+q.2)*F.pow q.2 j+sumP j (shiftP q.2 ps):=rfl
    rw[e2,F.add_self,F.mul_zero,F.zero_mul,F.zero_add,hs (j+1) (by omega),hs j (by omega),F.mul_zero,F.add_zero]at e
    exact e
   have h2:=ih (shiftP q.2 ps) (by rw[K_19f];exact hn'.2) (by simp[shiftP]at hl ⊢;exact hl) h1
   have h3:∀ p∈ps,p.1=0:=fun p hp=>by
    have h4:(p.1*(p.2+q.2),p.2)∈shiftP q.2 ps:=List.mem_map.2 ⟨p,hp,rfl⟩
    have h5:=h2 _ h4
    have hne:p.2+q.2≠0:=F.add_ne_zero fun e=>hn'.1 (e ▸ List.mem_map.2 ⟨p,hp,rfl⟩)
    exact(F.mul_eq_zero h5).resolve_right hne
   have h5:=hs 0 (by omega)
   rw[sumP,K_14r h3,F.add_zero,F.pow_zero,F.mul_one]at h5
   intro p hp
   rcases List.mem_cons.1 hp with e | e
   ·rw[e];exact h5
   ·exact h3 p e
theorem K_zc:∀ {l:List F} {p:F×F},p∈supp l→p.1≠0
 | [],_,h=>by simp[supp]at h
 | c :: l,p,h=>by
  unfold supp at h
  by_cases hc:c=0
  ·rw[if_pos hc]at h;exact K_zc h
  ·rw[if_neg hc]at h
   rcases List.mem_cons.1 h with e | e
   ·rw[e];exact hc
   ·exact K_zc e
theorem K_1c3:∀ {l:List F},supp l=[]→∀ c∈l,c=0
 | [],_=>by simp
 | c :: l,h=>by
  unfold supp at h
  by_cases hc:c=0
  ·rw[if_pos hc]at h
   intro d hd
   rcases List.mem_cons.1 hd with e | e
   ·rw[e];exact hc
   ·exact K_1c3 h d e
  ·rw[if_neg hc]at h;simp at h
def Right(l:List F):Prop:=∀ j,j<4→hor (F.pow F.three j) l=0
instance (l:List F):Decidable (Right l):=inferInstanceAs (Decidable (∀ j,j<4→_))
def far(l m:List F):Nat:=(supp (xorR l m)).length
theorem K_17u{l m:List F}(h:l.length=m.length)(hl:l.length≤255)(h1:Right l)(h2:Right m)(hf:far l m≤4):l=m:=by
 have hx:=xorR_length h
 have hz:supp (xorR l m)=[]:=by
  have:=vdm 4 (supp (xorR l m)) (K_ms (by omega)) hf fun j hj=>by rw[←K_12x,K_11n _ h,h1 j hj,h2 j hj,F.add_zero]
  cases hs:supp (xorR l m) with
  | nil=>rfl
  | cons p ps=>exact absurd (this p (by rw[hs];simp)) (K_zc (l:=xorR l m) (by rw[hs];simp))
 have hall:=K_1c3 hz
 clear h1 h2 hf hz hl hx
 induction l generalizing m with
 | nil=>cases m with
  | nil=>rfl
  | cons b m=>simp at h
 | cons a l ih=>
  cases m with
  | nil=>simp at h
  | cons b m=>
   rw[F.eq_of_add (hall (a+b) (by simp[xorR])),ih (by simpa using h) fun c hc=>hall c (by simp[xorR,hc])]
theorem K_1id:∀ l m:List F,far l m=far m l:=by
 intro l m
 have:xorR l m=xorR m l:=by
  induction l generalizing m with
  | nil=>cases m <;> rfl
  | cons a l ih=>cases m with
   | nil=>rfl
   | cons b m=>simp only[xorR];rw[F.add_comm,ih m]
 unfold far;rw[this]
theorem K_rv:∀ l m k:List F,l.length=m.length→m.length=k.length→far l k≤far l m+far m k
 | [],[],[],_,_=>by simp[far,xorR,supp]
 | a :: l,b :: m,c :: k,h,h'=>by
  have ih:=K_rv l m k (by simpa using h) (by simpa using h')
  unfold far at ih ⊢
  simp only[xorR,supp]
  by_cases e1:a+b=0
  ·have:=F.eq_of_add e1;subst this
   rw[if_pos (F.add_self a)]
   by_cases e2:a+c=0
   ·rw[if_pos e2,if_pos e2];exact ih
   ·rw[if_neg e2,if_neg e2];simp only[List.length_cons];omega
  ·rw[if_neg e1]
   by_cases e2:b+c=0
   ·rw[if_pos e2]
    split <;> simp only[List.length_cons] <;> omega
   ·rw[if_neg e2]
    split <;> simp only[List.length_cons] <;> omega
 | [],[],_ :: _,_,h'=>by simp at h'
 | [],_ :: _,_,h,_=>by simp at h
 | _ :: _,[],_,h,_=>by simp at h
 | _ :: _,_ :: _,[],_,h'=>by simp at h'
def Near(b c:List F):Prop:=c.length=b.length∧Right c∧far b c≤2
theorem Near.unique{b c c':List F}(hl:b.length≤255)(h:Near b c)(h':Near b c'):c=c':=by
 obtain⟨l1,r1,f1⟩:=h
 obtain⟨l2,r2,f2⟩:=h'
 refine K_17u (by omega) (by omega) r1 r2 ?_
 have:=K_rv c b c' (by omega) (by omega)
 rw[K_1id c b]at this
 omega
end Go.Gf

namespace Go.Gf
def putX:List F→Nat→F→List F
 | [],_,_=>[]
 | c :: l,0,v=>(c+v) :: l
 | c :: l,i+1,v=>c :: putX l i v
theorem K_1n:∀ (l:List F) (i:Nat) (v:F),(putX l i v).length=l.length
 | [],_,_=>rfl
 | _ :: _,0,_=>rfl
 | _ :: l,i+1,v=>by simp[putX,K_1n l i v]
theorem K_19s(x v:F):∀ (l:List F) (i:Nat),i<l.length→hor x (putX l i v)=hor x l+v*F.pow x (l.length - 1 - i)
 | [],i,h=>by simp at h
 | c :: l,0,_=>by
  show hor x ((c+v) :: l)=_
  rw[K_2k,K_2k,F.add_mul,List.length_cons,Nat.add_sub_cancel,Nat.sub_zero]
  simp only[F.add_assoc,F.add_comm,F.add_left_comm]
 | c :: l,i+1,h=>by
  show hor x (c :: putX l i v)=_
  have e:(c :: l).length - 1 - (i+1)=l.length - 1 - i:=by simp;omega
  rw[K_2k,K_2k,K_19s x v l i (by simpa using h),K_1n,e,F.add_assoc]
theorem K_jq:∀ l:List F,supp (xorR l l)=[]
 | []=>rfl
 | c :: l=>by
  show supp ((c+c) :: xorR l l)=[]
  rw[K_h6,if_pos (F.add_self c),K_jq l]
theorem K_ad(l:List F):far l l=0:=by unfold far;rw[K_jq];rfl
theorem K_e4:∀ (l:List F) (i:Nat) (v:F),i<l.length→far l (putX l i v)=if v=0 then 0 else 1
 | [],_,_,h=>by simp at h
 | c :: l,0,v,_=>by
  show (supp ((c+(c+v)) :: xorR l l)).length=_
  rw[F.add_cancel,K_h6,K_jq]
  split <;> rfl
 | c :: l,i+1,v,h=>by
  show (supp ((c+c) :: xorR l (putX l i v))).length=_
  rw[K_h6,if_pos (F.add_self c)]
  exact K_e4 l i v (by simpa using h)
theorem K_11e:∀ {l m:List F},l.length=m.length→far l m=0→l=m
 | [],m,h,_=>by
  cases m with
  | nil=>rfl
  | cons b m=>simp at h
 | a :: l,[],h,_=>by simp at h
 | a :: l,b :: m,h,hf=>by
  have hf:(supp ((a+b) :: xorR l m)).length=0:=hf
  rw[K_h6]at hf
  by_cases c:a+b=0
  ·rw[if_pos c]at hf
   rw[F.eq_of_add c,K_11e (by simpa using h) hf]
  ·rw[if_neg c]at hf;simp at hf
def tj(j:Nat):F:=F.pow F.three j
def sj(b:List F)(j:Nat):F:=hor (tj j) b
theorem K_1p{b:List F}{i:Nat}(h:i<b.length)(v:F)(j:Nat):sj (putX b i v) j=sj b j+v*F.pow (tj (b.length - 1 - i)) j:=by
 unfold sj tj
 rw[K_19s _ v b i h,pow_comm']
theorem K_l7(b:List F):Right b↔sj b 0=0∧sj b 1=0∧sj b 2=0∧sj b 3=0:=by
 constructor
 ·intro h;exact⟨h 0 (by decide),h 1 (by decide),h 2 (by decide),h 3 (by decide)⟩
 ·rintro⟨h0,h1,h2,h3⟩ j hj
  match j,hj with
  | 0,_=>exact h0
  | 1,_=>exact h1
  | 2,_=>exact h2
  | 3,_=>exact h3
theorem K_1kb{b c:List F}(hl:c.length=b.length)(h:Right c)(j:Nat)(hj:j<4):sj b j=sumP j (supp (xorR b c)):=by
 have h1:=K_11n (tj j) (l:=b) (m:=c) hl.symm
 have h2:hor (tj j) c=0:=h j hj
 rw[h2,F.add_zero]at h1
 unfold sj
 rw[←h1]
 exact K_12x j _
theorem K_15f{b c:List F}(hb:b.length≤255)(h:Near b c):
  (c=b∧far b c=0∧Right b)∨
  (∃ i v,i<b.length∧v≠0∧far b c=1∧∀ j,j<4→sj b j=v*F.pow (tj (b.length - 1 - i)) j)∨
  (∃ i k v w,i<k∧k<b.length∧v≠0∧w≠0∧far b c=2∧tj (b.length - 1 - i)≠tj (b.length - 1 - k)∧∀ j,j<4→sj b j=v*F.pow (tj (b.length - 1 - i)) j+w*F.pow (tj (b.length - 1 - k)) j):=by
 obtain⟨hl,hr,hf⟩:=h
 have hs:=fun j hj=>K_1kb hl hr j hj
 have hxl:(xorR b c).length=b.length:=xorR_length hl.symm
 have hnd:=K_ms (l:=xorR b c) (by omega)
 have place:∀ p∈supp (xorR b c),∃ i,i<b.length∧p.2=tj (b.length - 1 - i):=fun p hp=>by
  obtain⟨i,hi,e⟩:=K_n0 hp
  exact⟨b.length - 1 - i,by omega,by rw[e];unfold tj;congr 1;omega⟩
 have hfar:far b c=(supp (xorR b c)).length:=rfl
 have hnz:=fun p hp=>K_zc (l:=xorR b c) (p:=p) hp
 obtain⟨S,hS⟩:∃ S,supp (xorR b c)=S:=⟨_,rfl⟩
 rw[hS]at hs hnd place hfar hnz
 match S,hs,hnd,place,hfar,hnz with
 | [],_,_,_,hfar,_=>
  have:b=c:=K_11e hl.symm hfar
  subst this
  exact .inl ⟨rfl,hfar,hr⟩
 | [p],hs,_,place,hfar,hnz=>
  obtain⟨i,hi,e⟩:=place p (by simp)
  refine .inr (.inl ⟨i,p.1,hi,hnz p (by simp),hfar,fun j hj=>?_⟩)
  rw[hs j hj,←e]
  exact F.add_zero _
 | [p,q],hs,hnd,place,hfar,hnz=>
  obtain⟨i,hi,e⟩:=place p (by simp)
  obtain⟨k,hk,e'⟩:=place q (by simp)
  have hne:p.2≠q.2:=by simp at hnd;exact hnd
  have hsum:∀ j,j<4→sj b j=p.1*F.pow p.2 j+q.1*F.pow q.2 j:=fun j hj=>by
   rw[hs j hj]
   show p.1*F.pow p.2 j+(q.1*F.pow q.2 j+0)=_
   rw[F.add_zero]
  have hik:i≠k:=fun e3=>hne (by rw[e,e',e3])
  refine .inr (.inr ?_)
  rcases Nat.lt_or_ge i k with c1 | c1
  ·exact⟨i,k,p.1,q.1,c1,hk,hnz p (by simp),hnz q (by simp),hfar,by rw[←e,←e'];exact hne,fun j hj=>by rw[hsum j hj,←e,←e']⟩
  ·exact⟨k,i,q.1,p.1,by omega,hi,hnz q (by simp),hnz p (by simp),hfar,by rw[←e,←e'];exact fun e3=>hne e3.symm,fun j hj=>by rw[hsum j hj,←e,←e',F.add_comm]⟩
 | p :: q :: r :: S,_,_,_,hfar,_=>rw[hfar]at hf;simp at hf
def try1(b:List F)(i:Nat):Option (List F):=
 let x:=tj (b.length - 1 - i)
 if sj b 1=sj b 0*x∧sj b 2=sj b 0*(x*x)∧sj b 3=sj b 0*(x*(x*x)) then some (putX b i (sj b 0)) else none
def wOf(s0 s1 x y:F):F:=(s1+s0*x)*(x+y).inv
def try2(b:List F)(i k:Nat):Option (List F):=
 let x:=tj (b.length - 1 - i)
 let y:=tj (b.length - 1 - k)
 let w:=wOf (sj b 0) (sj b 1) x y
 let v:=sj b 0+w
 if sj b 2≠v*(x*x)+w*(y*y)∨sj b 3≠v*(x*(x*x))+w*(y*(y*y))∨v=0∨w=0 then none else some (putX (putX b i v) k w)
def first1(b:List F)(i d:Nat):Option (List F):=(List.range' i d).findSome? (try1 b)
def first2in(b:List F)(i k d:Nat):Option (List F):=(List.range' k d).findSome? (try2 b i)
def first2(b:List F)(i d:Nat):Option (List F):=(List.range' i d).findSome? fun i=>first2in b i (i+1) (b.length - (i+1))
def nearP(b:List F):Option (List F×Nat):=
 if Right b then some (b,0)
 else match first1 b 0 b.length with
  | some c=>some (c,1)
  | none=>match first2 b 0 b.length with
   | some c=>some (c,2)
   | none=>none
theorem K_9f(x:F):F.pow x 2=x*x:=by show 1*x*x=x*x;rw[F.one_mul]
theorem K_86(x:F):F.pow x 1=x:=by show 1*x=x;rw[F.one_mul]
theorem K_5m(x:F):F.pow x 3=x*(x*x):=by show 1*x*x*x=_;rw[F.one_mul,F.mul_assoc]
theorem K_1gk{b c:List F}{i:Nat}(hi:i<b.length)(hn:¬Right b)(h:try1 b i=some c):Near b c∧far b c=1:=by
 unfold try1 at h
 simp only at h
 split at h
 ·rename_i hc
  obtain⟨h1,h2,h3⟩:=hc
  obtain rfl:=Option.some.inj h
  have h0:sj b 0≠0:=fun e=>hn ((K_l7 b).2 ⟨e,by rw[h1,e,F.zero_mul],by rw[h2,e,F.zero_mul],by rw[h3,e,F.zero_mul]⟩)
  have hf:=K_e4 b i (sj b 0) hi
  rw[if_neg h0]at hf
  refine⟨⟨K_1n _ _ _,(K_l7 _).2 ?_,by omega⟩,hf⟩
  rw[K_1p hi,K_1p hi,K_1p hi,K_1p hi,F.pow_zero,K_86,K_9f,K_5m,h1,h2,h3,F.mul_one]
  exact⟨F.add_self _,F.add_self _,F.add_self _,F.add_self _⟩
 ·cases h
theorem K_1go{b c:List F}{i k:Nat}(hik:i<k)(hk:k<b.length)(hl:b.length≤255)(h:try2 b i k=some c):Near b c:=by
 unfold try2 at h
 simp only at h
 split at h
 ·cases h
 ·rename_i hc
  obtain rfl:=Option.some.inj h
  have h2:sj b 2=_:=Classical.byContradiction fun e=>hc (.inl e)
  have h3:sj b 3=_:=Classical.byContradiction fun e=>hc (.inr (.inl e))
  have hi:i<b.length:=by omega
  have hne:tj (b.length - 1 - i)+tj (b.length - 1 - k)≠0:=F.add_ne_zero fun e=>by
   have:=K_jg (by omega) (by omega) e
   omega
  obtain⟨x,hx⟩:∃ x,tj (b.length - 1 - i)=x:=⟨_,rfl⟩
  obtain⟨y,hy⟩:∃ y,tj (b.length - 1 - k)=y:=⟨_,rfl⟩
  rw[hx,hy]at h2 h3 hne ⊢
  obtain⟨w,hw⟩:∃ w,wOf (sj b 0) (sj b 1) x y=w:=⟨_,rfl⟩
  rw[hw]at h2 h3 ⊢
  have hw1:w*(x+y)=sj b 1+sj b 0*x:=by rw[←hw];unfold wOf;rw[F.mul_assoc,F.inv_mul hne,F.mul_one]
  have hs1:sj b 1=(sj b 0+w)*x+w*y:=by
   have:=congrArg (sj b 0*x+ ·) hw1
   simp only[F.mul_add,F.add_mul,F.add_assoc,F.add_comm,F.add_left_comm,F.mul_assoc,F.mul_comm,F.mul_left_comm,F.add_cancel,F.add_self,F.add_zero,F.zero_add]at this ⊢
   exact this.symm
  have hlen:=K_1n b i (sj b 0+w)
  refine⟨by rw[K_1n,K_1n],(K_l7 _).2 ?_,?_⟩
  ·have hk':k<(putX b i (sj b 0+w)).length:=by omega
   rw[K_1p hk',K_1p hk',K_1p hk',K_1p hk',K_1p hi,K_1p hi,K_1p hi,K_1p hi,hlen,hx,hy,F.pow_zero,F.pow_zero,K_86,K_86,K_9f,K_9f,K_5m,K_5m,h2,h3]
   refine⟨?_,?_,?_,?_⟩
   ·simp only[F.mul_one,F.add_assoc,F.add_comm,F.add_left_comm,F.add_cancel,F.add_self,F.add_zero]
   ·rw[F.add_assoc,←hs1,F.add_self]
   ·rw[F.add_assoc,F.add_self]
   ·rw[F.add_assoc,F.add_self]
  ·have t:=K_rv b (putX b i (sj b 0+w)) (putX (putX b i (sj b 0+w)) k w) hlen.symm (K_1n _ _ _).symm
   have f1:=K_e4 b i (sj b 0+w) hi
   have f2:=K_e4 (putX b i (sj b 0+w)) k w (by omega)
   have g1:far b (putX b i (sj b 0+w))≤1:=by rw[f1];split <;> omega
   have g2:far (putX b i (sj b 0+w)) (putX (putX b i (sj b 0+w)) k w)≤1:=by rw[f2];split <;> omega
   omega
theorem K_lb{α β:Type}{f:α→Option β}:∀ {l:List α} {b:β},l.findSome? f=some b→∃ a∈l,f a=some b:=fun h=>List.exists_of_findSome?_eq_some h
theorem K_1fc{b:List F}(hb:b.length≤255):(∀ c,Near b c→nearP b=some (c,far b c))∧(∀ r,nearP b=some r→Near b r.1):=by
 have hit1:∀ c,first1 b 0 b.length=some c→¬Right b→Near b c∧far b c=1:=fun c h hn=>by
  obtain⟨i,hi,e⟩:=K_lb h
  exact K_1gk (by simp[List.mem_range'_1]at hi;omega) hn e
 have hit2:∀ c,first2 b 0 b.length=some c→Near b c:=fun c h=>by
  obtain⟨i,hi,e⟩:=K_lb h
  obtain⟨k,hk,e⟩:=K_lb e
  simp[List.mem_range'_1]at hi hk
  exact K_1go (by omega) (by omega) hb e
 constructor
 ·intro c hc
  unfold nearP
  rcases K_15f hb hc with ⟨rfl,hf,hr⟩ | ⟨i,v,hi,hv,hf,hs⟩ | ⟨i,k,v,w,hik,hk,hv,hw,hf,hxy,hs⟩
  ·rw[if_pos hr,hf]
  ·have hn:¬Right b:=fun hr=>by
    have:=Near.unique hb hc ⟨rfl,hr,by rw[K_ad];omega⟩
    rw[this,K_ad]at hf;omega
   rw[if_neg hn]
   have ht:try1 b i=some (putX b i (sj b 0)):=by
    unfold try1
    simp only
    have e0:=hs 0 (by decide);have e1:=hs 1 (by decide);have e2:=hs 2 (by decide);have e3:=hs 3 (by decide)
    rw[F.pow_zero,F.mul_one]at e0
    rw[K_86]at e1;rw[K_9f]at e2;rw[K_5m]at e3
    rw[if_pos ⟨by rw[e0,e1],by rw[e0,e2],by rw[e0,e3]⟩]
   cases hfst:first1 b 0 b.length with
   | none=>
    have:=List.findSome?_eq_none_iff.1 hfst i (by simp[List.mem_range'_1];exact hi)
    rw[this]at ht;cases ht
   | some c'=>
    obtain⟨h1,h2⟩:=hit1 c' hfst hn
    rw[Near.unique hb hc h1,h2]
  ·have hn:¬Right b:=fun hr=>by
    have:=Near.unique hb hc ⟨rfl,hr,by rw[K_ad];omega⟩
    rw[this,K_ad]at hf;omega
   rw[if_neg hn]
   cases hfst:first1 b 0 b.length with
   | some c'=>
    obtain⟨h1,h2⟩:=hit1 c' hfst hn
    rw[Near.unique hb hc h1,h2]at hf;omega
   | none=>
    simp only
    have ht:∃ c',try2 b i k=some c':=by
     unfold try2
     simp only
     have e0:=hs 0 (by decide);have e1:=hs 1 (by decide);have e2:=hs 2 (by decide);have e3:=hs 3 (by decide)
     obtain⟨x,hx⟩:∃ x,tj (b.length - 1 - i)=x:=⟨_,rfl⟩
     obtain⟨y,hy⟩:∃ y,tj (b.length - 1 - k)=y:=⟨_,rfl⟩
     rw[hx,hy]at e0 e1 e2 e3 hxy ⊢
     rw[F.pow_zero,F.pow_zero,F.mul_one,F.mul_one]at e0
     rw[K_86,K_86]at e1;rw[K_9f,K_9f]at e2;rw[K_5m,K_5m]at e3
     have hw':wOf (sj b 0) (sj b 1) x y=w:=by
      unfold wOf
      have:sj b 1+sj b 0*x=w*(x+y):=by
       rw[e0,e1]
       simp only[F.mul_add,F.add_mul,F.add_assoc,F.add_comm,F.add_left_comm,F.mul_assoc,F.mul_comm,F.mul_left_comm,F.add_cancel,F.add_self,F.add_zero,F.zero_add]
      rw[this,F.mul_assoc,F.mul_inv (F.add_ne_zero hxy),F.mul_one]
     have hv':sj b 0+w=v:=by rw[e0,F.add_assoc,F.add_self,F.add_zero]
     rw[hw',hv',if_neg]
     ·exact⟨_,rfl⟩
     ·rintro(h | h | h | h)
      ·exact h e2
      ·exact h e3
      ·exact hv h
      ·exact hw h
    obtain⟨c',hc'⟩:=ht
    cases hsnd:first2 b 0 b.length with
    | none=>
     have h1:=List.findSome?_eq_none_iff.1 hsnd i (by simp[List.mem_range'_1];omega)
     have h2:=List.findSome?_eq_none_iff.1 h1 k (by simp[List.mem_range'_1];omega)
     rw[h2]at hc';cases hc'
    | some c2=>
     simp only
     rw[Near.unique hb hc (hit2 c2 hsnd)]
     rw[Near.unique hb hc (hit2 c2 hsnd)]at hf
     rw[hf]
 ·intro r h
  unfold nearP at h
  split at h
  ·rename_i hr
   obtain rfl:=Option.some.inj h
   exact⟨rfl,hr,by rw[K_ad];omega⟩
  ·rename_i hr
   split at h
   ·rename_i c hc
    obtain rfl:=Option.some.inj h
    exact(hit1 _ hc hr).1
   ·split at h
    ·rename_i c hc
     obtain rfl:=Option.some.inj h
     exact hit2 _ hc
    ·cases h
def atG(n:Nat)(x:F):Nat→Nat→Option Nat→Option Nat
 | 0,_,a=>a
 | d+1,k,a=>atG n x d (k+1) (if tj (n - 1 - k)=x then some k else a)
def atOf(n:Nat)(x:F):Option Nat:=atG n x n 0 none
theorem K_120{n:Nat}(hn:n≤255){x:F}:∀ (d k:Nat) (a:Option Nat),k+d=n→(∀ i,a=some i→i<n∧tj (n - 1 - i)=x)→∀ i,atG n x d k a=some i→i<n∧tj (n - 1 - i)=x
 | 0,_,a,_,h,i,e=>h i e
 | d+1,k,a,hk,h,i,e=>by
  refine K_120 hn d (k+1) _ (by omega) (fun i hi=>?_) i e
  split at hi
  ·rename_i hx;obtain rfl:=Option.some.inj hi;exact⟨by omega,hx⟩
  ·exact h i hi
theorem K_14p{n:Nat}{x:F}:∀ (d k:Nat) (a:Option Nat),(a.isSome=true∨∃ i,k≤i∧i<k+d∧tj (n - 1 - i)=x)→(atG n x d k a).isSome=true
 | 0,_,a,h=>by
  rcases h with h | ⟨i,h1,h2,_⟩
  ·exact h
  ·omega
 | d+1,k,a,h=>by
  refine K_14p d (k+1) _ ?_
  by_cases c:tj (n - 1 - k)=x
  ·left;rw[if_pos c];rfl
  ·rw[if_neg c]
   rcases h with h | ⟨i,h1,h2,h3⟩
   ·exact .inl h
   ·have:i≠k:=fun e=>c (e ▸ h3)
    exact .inr ⟨i,by omega,by omega,h3⟩
theorem K_1ec{n:Nat}(hn:n≤255){i:Nat}(hi:i<n):atOf n (tj (n - 1 - i))=some i:=by
 have h1:=K_14p (n:=n) (x:=tj (n - 1 - i)) n 0 none (.inr ⟨i,by omega,by omega,rfl⟩)
 obtain⟨k,hk⟩:=Option.isSome_iff_exists.1 h1
 have h2:=K_120 hn n 0 none (by omega) (fun _ e=>by cases e) k hk
 have:=K_jg (by omega) (by omega) h2.2
 unfold atOf
 rw[hk]
 congr 1
 omega
theorem K_17t{n:Nat}(hn:n≤255){x:F}{i:Nat}(h:atOf n x=some i):i<n∧tj (n - 1 - i)=x:=K_120 hn n 0 none (by omega) (fun _ e=>by cases e) i h
def fix(out:List F)(x v:F):Option (List F):=(atOf out.length x).map fun k=>putX out k v
def delta(b:List F):F:=sj b 0*sj b 2+sj b 1*sj b 1
def one(b:List F):F:=(sj b 0*sj b 3+sj b 1*sj b 2)*(delta b).inv
def two(b:List F):F:=(sj b 1*sj b 3+sj b 2*sj b 2)*(delta b).inv
def rootsG(o t:F):Nat→Nat→List F
 | 0,_=>[]
 | d+1,i=>if tj i*tj i+o*tj i+t=0 then tj i :: rootsG o t d (i+1) else rootsG o t d (i+1)
def roots(b:List F):List F:=rootsG (one b) (two b) b.length 0
def vOf(s0 s1 x y:F):F:=(s1+s0*y)*(x+y).inv
def repP(b:List F):Option (List F×Nat):=
 if Right b then some (b,0)
 else if delta b=0 then
  if sj b 0=0∨sj b 1=0 then none
  else(fix b (sj b 1*(sj b 0).inv) (sj b 0)).bind fun o=>if Right o then some (o,1) else none
 else match roots b with
  | [x,y]=>(fix b x (vOf (sj b 0) (sj b 1) x y)).bind fun o=>(fix o y (vOf (sj b 0) (sj b 1) y x)).bind fun o2=>if Right o2 then some (o2,2) else none
  | _=>none
theorem K_cb{o o2:List F}{x v:F}(h:fix o x v=some o2):o2.length=o.length:=by
 unfold fix at h
 cases ha:atOf o.length x with
 | none=>rw[ha]at h;cases h
 | some k=>rw[ha]at h;obtain rfl:=Option.some.inj h;exact K_1n _ _ _
theorem K_178{o o2:List F}(hn:o.length≤255){x v:F}(h:fix o x v=some o2):far o o2≤1:=by
 unfold fix at h
 cases ha:atOf o.length x with
 | none=>rw[ha]at h;cases h
 | some k=>
  rw[ha]at h;obtain rfl:=Option.some.inj h
  rw[K_e4 _ _ _ (K_17t hn ha).1]
  split <;> omega
theorem K_14d{o:List F}(hn:o.length≤255){i:Nat}(hi:i<o.length)(v:F):fix o (tj (o.length - 1 - i)) v=some (putX o i v):=by
 unfold fix
 rw[K_1ec hn hi]
 rfl
theorem K_13x{o t X Y:F}(h:∀ x:F,x*x+o*x+t=0↔x=X∨x=Y){a b:Nat}(hab:a<b):∀ (d i:Nat),b<255→i+d≤255→(tj a=X∧tj b=Y∨tj a=Y∧tj b=X)→
  rootsG o t d i=(if i≤a∧a<i+d then [tj a] else []) ++ (if i≤b∧b<i+d then [tj b] else [])
 | 0,i,_,_,_=>by rw[if_neg (by omega),if_neg (by omega)];rfl
 | d+1,i,hb,hd,hp=>by
  have ih:=K_13x h hab d (i+1) hb (by omega) hp
  have hroot:(tj i*tj i+o*tj i+t=0)↔i=a∨i=b:=by
   rw[h]
   constructor
   ·intro e
    have:tj i=tj a∨tj i=tj b:=by
     rcases hp with ⟨h1,h2⟩ | ⟨h1,h2⟩
     ·rw[h1,h2];exact e
     ·rw[h1,h2];exact e.symm
    rcases this with e | e
    ·exact .inl (K_jg (by omega) (by omega) e)
    ·exact .inr (K_jg (by omega) (by omega) e)
   ·rintro(rfl | rfl)
    ·rcases hp with ⟨h1,h2⟩ | ⟨h1,h2⟩
     ·exact .inl h1
     ·exact .inr h1
    ·rcases hp with ⟨h1,h2⟩ | ⟨h1,h2⟩
     ·exact .inr h2
     ·exact .inl h2
  simp only[rootsG]
  by_cases c1:i=a
  ·subst c1
   have q1:¬(i+1≤i∧i<i+1+d):=by omega
   have q2:i≤i∧i<i+(d+1):=by omega
   have q3:(i+1≤b∧b<i+1+d)=(i≤b∧b<i+(d+1)):=propext (by omega)
   rw[if_pos (hroot.2 (.inl rfl)),ih,if_neg q1,if_pos q2,List.nil_append]
   simp only[q3]
   rfl
  ·by_cases c2:i=b
   ·subst c2
    have q1:¬(i+1≤a∧a<i+1+d):=by omega
    have q2:¬(i+1≤i∧i<i+1+d):=by omega
    have q3:¬(i≤a∧a<i+(d+1)):=by omega
    have q4:i≤i∧i<i+(d+1):=by omega
    rw[if_pos (hroot.2 (.inr rfl)),ih,if_neg q1,if_neg q2,if_neg q3,if_pos q4]
    rfl
   ·rw[if_neg (fun e=>(hroot.1 e).elim c1 c2),ih]
    have e1:(i+1≤a∧a<i+1+d)↔(i≤a∧a<i+(d+1)):=by omega
    have e2:(i+1≤b∧b<i+1+d)↔(i≤b∧b<i+(d+1)):=by omega
    simp only[e1,e2]
theorem K_pm{b:List F}(hb:b.length≤255):(∀ c,Near b c→repP b=some (c,far b c))∧(∀ r,repP b=some r→Near b r.1):=by
 constructor
 ·intro c hc
  unfold repP
  rcases K_15f hb hc with ⟨rfl,hf,hr⟩ | ⟨i,v,hi,hv,hf,hs⟩ | ⟨i,k,v,w,hik,hk,hv,hw,hf,hxy,hs⟩
  ·rw[if_pos hr,hf]
  ·have hn:¬Right b:=fun hr=>by
    have:=Near.unique hb hc ⟨rfl,hr,by rw[K_ad];omega⟩
    rw[this,K_ad]at hf;omega
   rw[if_neg hn]
   have e0:=hs 0 (by decide);have e1:=hs 1 (by decide);have e2:=hs 2 (by decide);have e3:=hs 3 (by decide)
   have hxz:tj (b.length - 1 - i)≠0:=K_15v _
   rw[F.pow_zero,F.mul_one]at e0
   rw[K_86]at e1;rw[K_9f]at e2;rw[K_5m]at e3
   have hd:delta b=0:=by
    unfold delta
    rw[e0,e1,e2]
    simp only[F.mul_add,F.add_mul,F.add_assoc,F.add_comm,F.add_left_comm,F.mul_assoc,F.mul_comm,F.mul_left_comm,F.add_cancel,F.add_self,F.add_zero,F.zero_add]
   have hz:¬(sj b 0=0∨sj b 1=0):=by
    rintro(h | h)
    ·exact hv (e0 ▸ h)
    ·rw[e1]at h;exact F.mul_ne_zero hv hxz h
   have hx:sj b 1*(sj b 0).inv=tj (b.length - 1 - i):=by
    rw[e0,e1,F.mul_comm v,F.mul_assoc,F.mul_inv hv,F.mul_one]
   rw[if_pos hd,if_neg hz,hx,K_14d hb hi,Option.bind_some]
   have hr:Right (putX b i (sj b 0)):=by
    rw[K_l7,K_1p hi,K_1p hi,K_1p hi,K_1p hi,F.pow_zero,K_86,K_9f,K_5m,e0,e1,e2,e3,F.mul_one]
    exact⟨F.add_self _,F.add_self _,F.add_self _,F.add_self _⟩
   rw[if_pos hr]
   have hfp:=K_e4 b i (sj b 0) hi
   rw[if_neg (e0 ▸ hv)]at hfp
   rw[Near.unique hb hc ⟨K_1n _ _ _,hr,by omega⟩,hfp]
  ·have hn:¬Right b:=fun hr=>by
    have:=Near.unique hb hc ⟨rfl,hr,by rw[K_ad];omega⟩
    rw[this,K_ad]at hf;omega
   rw[if_neg hn]
   have e0:=hs 0 (by decide);have e1:=hs 1 (by decide);have e2:=hs 2 (by decide);have e3:=hs 3 (by decide)
   have hi:i<b.length:=by omega
   have hfi:=K_14d hb hi
   have hfk:=K_14d hb hk
   obtain⟨x,hx⟩:∃ x,tj (b.length - 1 - i)=x:=⟨_,rfl⟩
   obtain⟨y,hy⟩:∃ y,tj (b.length - 1 - k)=y:=⟨_,rfl⟩
   rw[hx,hy]at e0 e1 e2 e3 hxy
   rw[F.pow_zero,F.pow_zero,F.mul_one,F.mul_one]at e0
   rw[K_86,K_86]at e1;rw[K_9f,K_9f]at e2;rw[K_5m,K_5m]at e3
   have hne:x+y≠0:=F.add_ne_zero hxy
   have hne':y+x≠0:=by rw[F.add_comm];exact hne
   have hdel:delta b=v*w*((x+y)*(x+y)):=by
    unfold delta
    rw[e0,e1,e2]
    simp only[F.mul_add,F.add_mul,F.add_assoc,F.add_comm,F.add_left_comm,F.mul_assoc,F.mul_comm,F.mul_left_comm,F.add_cancel,F.add_self,F.add_zero,F.zero_add]
   have hd:delta b≠0:=by rw[hdel];exact F.mul_ne_zero (F.mul_ne_zero hv hw) (F.mul_ne_zero hne hne)
   have hone:one b=x+y:=by
    unfold one
    have:sj b 0*sj b 3+sj b 1*sj b 2=(x+y)*delta b:=by
     rw[hdel,e0,e1,e2,e3]
     simp only[F.mul_add,F.add_mul,F.add_assoc,F.add_comm,F.add_left_comm,F.mul_assoc,F.mul_comm,F.mul_left_comm,F.add_cancel,F.add_self,F.add_zero,F.zero_add]
    rw[this,F.mul_assoc,F.mul_inv hd,F.mul_one]
   have htwo:two b=x*y:=by
    unfold two
    have:sj b 1*sj b 3+sj b 2*sj b 2=(x*y)*delta b:=by
     rw[hdel,e1,e2,e3]
     simp only[F.mul_add,F.add_mul,F.add_assoc,F.add_comm,F.add_left_comm,F.mul_assoc,F.mul_comm,F.mul_left_comm,F.add_cancel,F.add_self,F.add_zero,F.zero_add]
    rw[this,F.mul_assoc,F.mul_inv hd,F.mul_one]
   rw[if_neg hd]
   have hroots:roots b=[y,x]:=by
    unfold roots
    have hq:∀ z:F,z*z+one b*z+two b=0↔z=y∨z=x:=by
     intro z
     have:z*z+one b*z+two b=(z+x)*(z+y):=by
      rw[hone,htwo]
      simp only[F.mul_add,F.add_mul,F.add_assoc,F.add_comm,F.add_left_comm,F.mul_assoc,F.mul_comm,F.mul_left_comm,F.add_cancel,F.add_self,F.add_zero,F.zero_add]
     rw[this]
     constructor
     ·intro h
      rcases F.mul_eq_zero h with h | h
      ·exact .inr (F.eq_of_add h)
      ·exact .inl (F.eq_of_add h)
     ·rintro(rfl | rfl)
      ·rw[F.add_self,F.mul_zero]
      ·rw[F.add_self,F.zero_mul]
    have:=K_13x hq (a:=b.length - 1 - k) (b:=b.length - 1 - i) (by omega) b.length 0 (by omega) (by omega) (.inl ⟨hy,hx⟩)
    rw[this,if_pos (by omega),if_pos (by omega),hx,hy]
    rfl
   rw[hroots]
   simp only
   have hw':vOf (sj b 0) (sj b 1) y x=w:=by
    unfold vOf
    have:sj b 1+sj b 0*x=w*(y+x):=by
     rw[e0,e1]
     simp only[F.mul_add,F.add_mul,F.add_assoc,F.add_comm,F.add_left_comm,F.mul_assoc,F.mul_comm,F.mul_left_comm,F.add_cancel,F.add_self,F.add_zero,F.zero_add]
    rw[this,F.mul_assoc,F.mul_inv hne',F.mul_one]
   have hv':vOf (sj b 0) (sj b 1) x y=v:=by
    unfold vOf
    have:sj b 1+sj b 0*y=v*(x+y):=by
     rw[e0,e1]
     simp only[F.mul_add,F.add_mul,F.add_assoc,F.add_comm,F.add_left_comm,F.mul_assoc,F.mul_comm,F.mul_left_comm,F.add_cancel,F.add_self,F.add_zero,F.zero_add]
    rw[this,F.mul_assoc,F.mul_inv hne,F.mul_one]
   rw[hw',hv',←hy,hfk w,Option.bind_some]
   have hl2:=K_1n b k w
   have hfi2:=K_14d (o:=putX b k w) (by omega) (i:=i) (by omega) v
   rw[hl2,hx]at hfi2
   rw[hfi2,Option.bind_some]
   have hr:Right (putX (putX b k w) i v):=by
    have hi':i<(putX b k w).length:=by omega
    rw[K_l7,K_1p hi',K_1p hi',K_1p hi',K_1p hi',K_1p hk,K_1p hk,K_1p hk,K_1p hk,hl2,hx,hy,F.pow_zero,F.pow_zero,K_86,K_86,K_9f,K_9f,K_5m,K_5m,e0,e1,e2,e3]
    refine⟨?_,?_,?_,?_⟩ <;> simp only[F.mul_one,F.add_assoc,F.add_comm,F.add_left_comm,F.add_cancel,F.add_self,F.add_zero]
   rw[if_pos hr]
   have t:=K_rv b (putX b k w) (putX (putX b k w) i v) hl2.symm (K_1n _ _ _).symm
   have f1:=K_e4 b k w hk
   have f2:=K_e4 (putX b k w) i v (by omega)
   rw[if_neg hw]at f1
   rw[if_neg hv]at f2
   have heq:=Near.unique hb hc ⟨by rw[K_1n,K_1n],hr,by omega⟩
   rw[←heq,hf]
 ·intro r h
  unfold repP at h
  split at h
  ·rename_i hr
   obtain rfl:=Option.some.inj h
   exact⟨rfl,hr,by rw[K_ad];omega⟩
  ·split at h
   ·split at h
    ·cases h
    ·obtain⟨o,ho,h⟩:=Option.bind_eq_some_iff.1 h
     split at h
     ·rename_i hr
      obtain rfl:=Option.some.inj h
      exact⟨K_cb ho,hr,Nat.le_trans (K_178 hb ho) (by decide)⟩
     ·cases h
   ·split at h
    ·obtain⟨o,ho,h⟩:=Option.bind_eq_some_iff.1 h
     obtain⟨o2,ho2,h⟩:=Option.bind_eq_some_iff.1 h
     split at h
     ·rename_i hr
      obtain rfl:=Option.some.inj h
      have l1:=K_cb ho
      have l2:=K_cb ho2
      refine⟨l2.trans l1,hr,?_⟩
      have t:=K_rv b o o2 (by omega) (by omega)
      have:=K_178 hb ho
      have:=K_178 (by omega) ho2
      show far b o2≤2
      omega
     ·cases h
    ·cases h
theorem repP_nearP{b:List F}(hb:b.length≤255):repP b=nearP b:=by
 have s1:=K_pm hb
 have s2:=K_1fc hb
 cases h:repP b with
 | some r=>
  have h1:=s1.2 r h
  have h2:=s1.1 _ h1
  rw[h]at h2
  rw[s2.1 _ h1,h2]
 | none=>
  cases h':nearP b with
  | none=>rfl
  | some r=>
   have h1:=s1.1 _ (s2.2 r h')
   rw[h]at h1;cases h1
end Go.Gf

namespace Go.Gf
def dot:List F→List F→F
 | a :: l,b :: m=>a*b+dot l m
 | _,_=>0
theorem K_61(a b:F)(l m:List F):dot (a :: l) (b :: m)=a*b+dot l m:=rfl
theorem K_gj(l:List F):dot l []=0:=by cases l <;> rfl
theorem K_y3(f:F):∀ (l z:List F),dot (l.map (f* ·)) z=f*dot l z
 | [],z=>by show (0:F)=f*0;rw[F.mul_zero]
 | a :: l,[]=>by rw[K_gj,K_gj,F.mul_zero]
 | a :: l,b :: z=>by
  rw[List.map_cons,K_61,K_61,K_y3 f l z,F.mul_add,F.mul_assoc]
theorem K_154(f:F):∀ (l z:List F),dot (l.map (· *f)) z=dot l z*f:=by
 intro l z
 have:l.map (· *f)=l.map (f* ·):=List.map_congr_left fun a _=>F.mul_comm a f
 rw[this,K_y3,F.mul_comm]
theorem K_1ad:∀ {l m:List F} (z:List F),l.length=m.length→dot (xorR l m) z=dot l z+dot m z
 | [],m,z,h=>by
  cases m with
  | nil=>exact(F.add_zero _).symm
  | cons b m=>simp at h
 | a :: l,[],z,h=>by simp at h
 | a :: l,b :: m,[],h=>by rw[K_gj,K_gj,K_gj,F.add_zero]
 | a :: l,b :: m,c :: z,h=>by
  show dot ((a+b) :: xorR l m) (c :: z)=_
  rw[K_61,K_61,K_61,K_1ad z (by simpa using h),F.add_mul]
  simp only[F.add_assoc,F.add_comm,F.add_left_comm]
theorem K_ue:∀ (a b y z:List F),a.length=y.length→dot (a ++ b) (y ++ z)=dot a y+dot b z
 | [],b,[],z,_=>by show dot b z=0+dot b z;rw[F.zero_add]
 | [],_,_ :: _,_,h=>by simp at h
 | _ :: _,_,[],_,h=>by simp at h
 | a :: l,b,c :: y,z,h=>by
  show a*c+dot (l ++ b) (y ++ z)=a*c+dot l y+dot b z
  rw[K_ue l b y z (by simpa using h),F.add_assoc]
def E(rows:List (List F))(i t:Nat):F:=(rows.getD i []).getD t 0
def Z(rows:List (List F))(z:List F):Prop:=∀ r∈rows,dot r z=0
def swapR(rows:List (List F))(c a:Nat):List (List F):=(rows.set c (rows.getD a [])).set a (rows.getD c [])
def normR(rows:List (List F))(c:Nat):List (List F):=rows.set c ((rows.getD c []).map (· *(E rows c c).inv))
def lessR(q:List F)(c:Nat)(r:List F):List F:=xorR r (q.map (r.getD c 0* ·))
def elimR(rows:List (List F))(c:Nat):List (List F):=rows.mapIdx fun i r=>if i=c then r else lessR (rows.getD c []) c r
def pivotG(rows:List (List F))(c:Nat):Nat→Nat→Option Nat
 | 0,_=>none
 | d+1,i=>if E rows i c≠0 then some i else pivotG rows c d (i+1)
def stepS(rows:List (List F))(c:Nat):Option (List (List F)):=
 (pivotG rows c (rows.length - c) c).map fun a=>elimR (normR (swapR rows c a) c) c
def solveG:List (List F)→Nat→Nat→Option (List (List F))
 | rows,0,_=>some rows
 | rows,d+1,c=>(stepS rows c).bind fun r=>solveG r d (c+1)
def restG(r:List (List F))(n:Nat):Nat→Nat→Bool
 | 0,_=>true
 | d+1,i=>if E r i n=0 then restG r n d (i+1) else false
def solve(n:Nat)(rows:List (List F)):Option (List F):=
 (solveG rows n 0).bind fun r=>if restG r n (r.length - n) n=true then some ((List.range n).map fun c=>E r c n) else none
theorem K_17q(r:List (List F))(n:Nat):∀ (d i:Nat),restG r n d i=true↔∀ k,i≤k→k<i+d→E r k n=0
 | 0,i=>⟨fun _ k h1 h2=>by omega,fun _=>rfl⟩
 | d+1,i=>by
  unfold restG
  by_cases c:E r i n=0
  ·rw[if_pos c,K_17q r n d (i+1)]
   constructor
   ·intro h k h1 h2
    by_cases e:k=i
    ·rw[e];exact c
    ·exact h k (by omega) (by omega)
   ·intro h k h1 h2;exact h k (by omega) (by omega)
  ·rw[if_neg c]
   constructor
   ·intro h;cases h
   ·intro h;exact absurd (h i (Nat.le_refl _) (by omega)) c
theorem Z_iff(rows:List (List F))(z:List F):Z rows z↔∀ i,i<rows.length→dot (rows.getD i []) z=0:=by
 constructor
 ·intro h i hi
  rw[List.getD_eq_getElem?_getD,List.getElem?_eq_getElem hi]
  exact h _ (List.getElem_mem hi)
 ·intro h r hr
  obtain⟨i,hi,e⟩:=List.getElem_of_mem hr
  have:=h i hi
  rw[List.getD_eq_getElem?_getD,List.getElem?_eq_getElem hi]at this
  rw[←e];exact this
theorem K_li{rows:List (List F)}{c:Nat}(r:List F)(hc:c<rows.length):(rows.set c r).getD c []=r:=by
 rw[List.getD_eq_getElem?_getD,List.getElem?_set_self hc];rfl
theorem getD_set_ne{rows:List (List F)}{c i:Nat}(r:List F)(h:c≠i):(rows.set c r).getD i []=rows.getD i []:=by
 rw[List.getD_eq_getElem?_getD,List.getElem?_set_ne h,List.getD_eq_getElem?_getD]
theorem swap_get{rows:List (List F)}{c a:Nat}(hc:c<rows.length)(ha:a<rows.length)(i:Nat):
  (swapR rows c a).getD i []=if i=a then rows.getD c [] else if i=c then rows.getD a [] else rows.getD i []:=by
 unfold swapR
 by_cases h:i=a
 ·subst h;rw[if_pos rfl,K_li _ (by simpa using ha)]
 ·rw[if_neg h,getD_set_ne _ (Ne.symm h)]
  by_cases h2:i=c
  ·subst h2;rw[if_pos rfl,K_li _ hc]
  ·rw[if_neg h2,getD_set_ne _ (Ne.symm h2)]
theorem swap_length(rows:List (List F))(c a:Nat):(swapR rows c a).length=rows.length:=by simp[swapR]
theorem norm_length(rows:List (List F))(c:Nat):(normR rows c).length=rows.length:=by simp[normR]
theorem elim_length(rows:List (List F))(c:Nat):(elimR rows c).length=rows.length:=by simp[elimR]
theorem K_11z{rows:List (List F)}{c:Nat}(hc:c<rows.length)(i:Nat):(normR rows c).getD i []=if i=c then(rows.getD c []).map (· *(E rows c c).inv) else rows.getD i []:=by
 unfold normR
 by_cases h:i=c
 ·subst h;rw[if_pos rfl,K_li _ hc]
 ·rw[if_neg h,getD_set_ne _ (Ne.symm h)]
theorem elim_get{rows:List (List F)}{c:Nat}{i:Nat}(hi:i<rows.length):(elimR rows c).getD i []=if i=c then rows.getD i [] else lessR (rows.getD c []) c (rows.getD i []):=by
 unfold elimR
 rw[List.getD_eq_getElem?_getD,List.getElem?_mapIdx,List.getElem?_eq_getElem hi]
 simp[List.getD_eq_getElem?_getD,List.getElem?_eq_getElem hi]
theorem K_1lx{rows:List (List F)}{c a:Nat}(hc:c<rows.length)(ha:a<rows.length)(z:List F):Z (swapR rows c a) z↔Z rows z:=by
 rw[Z_iff,Z_iff,swap_length]
 constructor
 ·intro h i hi
  by_cases h1:i=a
  ·subst h1
   by_cases h2:c=i
   ·subst h2;have:=h c hc;rw[swap_get hc ha,if_pos rfl]at this;exact this
   ·have:=h c hc;rw[swap_get hc ha,if_neg h2,if_pos rfl]at this;exact this
  ·by_cases h2:i=c
   ·subst h2;have:=h a ha;rw[swap_get hc ha,if_pos rfl]at this;exact this
   ·have:=h i hi;rw[swap_get hc ha,if_neg h1,if_neg h2]at this;exact this
 ·intro h i hi
  rw[swap_get hc ha]
  split
  ·exact h c hc
  ·split
   ·exact h a ha
   ·exact h i hi
theorem K_1mi{rows:List (List F)}{c:Nat}(hc:c<rows.length)(hz:E rows c c≠0)(z:List F):Z (normR rows c) z↔Z rows z:=by
 rw[Z_iff,Z_iff,norm_length]
 constructor
 ·intro h i hi
  have h1:=h i hi
  rw[K_11z hc]at h1
  by_cases h2:i=c
  ·rw[if_pos h2,K_154]at h1
   rw[h2]
   exact(F.mul_eq_zero h1).resolve_right (F.inv_ne_zero hz)
  ·rwa [if_neg h2]at h1
 ·intro h i hi
  rw[K_11z hc]
  split
  ·rw[K_154,h c hc,F.zero_mul]
  ·exact h i hi
theorem K_1mn{rows:List (List F)}{c m:Nat}(hc:c<rows.length)(hl:∀ i,i<rows.length→(rows.getD i []).length=m)(z:List F):Z (elimR rows c) z↔Z rows z:=by
 rw[Z_iff,Z_iff,elim_length]
 have hd:∀ i,i<rows.length→dot (lessR (rows.getD c []) c (rows.getD i [])) z=dot (rows.getD i []) z+(rows.getD i []).getD c 0*dot (rows.getD c []) z:=fun i hi=>by
  unfold lessR
  rw[K_1ad z (by rw[List.length_map,hl i hi,hl c hc]),K_y3]
 constructor
 ·intro h i hi
  have h0:=h c hc
  rw[elim_get hc,if_pos rfl]at h0
  have h1:=h i hi
  rw[elim_get hi]at h1
  by_cases h2:i=c
  ·rwa [if_pos h2]at h1
  ·rw[if_neg h2,hd i hi,h0,F.mul_zero,F.add_zero]at h1;exact h1
 ·intro h i hi
  rw[elim_get hi]
  split
  ·exact h i hi
  ·rw[hd i hi,h i hi,h c hc,F.mul_zero,F.add_zero]
theorem getD_xorR:∀ {l m:List F} (t:Nat),l.length=m.length→(xorR l m).getD t 0=l.getD t 0+m.getD t 0
 | [],m,t,h=>by
  cases m with
  | nil=>simp[xorR,F.add_zero]
  | cons b m=>simp at h
 | a :: l,[],t,h=>by simp at h
 | a :: l,b :: m,0,h=>rfl
 | a :: l,b :: m,t+1,h=>by
  have:=getD_xorR (l:=l) (m:=m) t (by simpa using h)
  simpa[xorR] using this
theorem getD_map0(f:F→F)(hf:f 0=0):∀ (l:List F) (t:Nat),(l.map f).getD t 0=f (l.getD t 0)
 | [],t=>by simp[hf]
 | a :: l,0=>rfl
 | a :: l,t+1=>by simpa using getD_map0 f hf l t
structure Shape(m n c:Nat) (rows:List (List F)):Prop where
 len:rows.length=m
 row:∀ i,i<m→(rows.getD i []).length=n+1
 unit:∀ i t,i<m→t<c→E rows i t=if i=t then 1 else 0
theorem pivot_some{rows:List (List F)}{c:Nat}:∀ (d i a:Nat),pivotG rows c d i=some a→i≤a∧a<i+d∧E rows a c≠0
 | 0,_,_,h=>by cases h
 | d+1,i,a,h=>by
  unfold pivotG at h
  split at h
  ·rename_i hne;obtain rfl:=Option.some.inj h;exact⟨Nat.le_refl _,by omega,hne⟩
  ·have:=pivot_some d (i+1) a h;exact⟨by omega,by omega,this.2.2⟩
theorem K_15m{rows:List (List F)}{c:Nat}:∀ (d i:Nat),pivotG rows c d i=none→∀ a,i≤a→a<i+d→E rows a c=0
 | 0,_,_,a,h1,h2=>by omega
 | d+1,i,h,a,h1,h2=>by
  unfold pivotG at h
  split at h
  ·cases h
  ·rename_i hne
   by_cases e:a=i
   ·subst e;exact Classical.byContradiction hne
   ·exact K_15m d (i+1) h a (by omega) (by omega)
theorem K_1ej{m n c:Nat}{rows:List (List F)}(S:Shape m n c rows)(hcm:c<m){a:Nat}(ha:c≤a)(ham:a<m)(hz:E rows a c≠0):
  Shape m n (c+1) (elimR (normR (swapR rows c a) c) c)∧∀ z,Z (elimR (normR (swapR rows c a) c) c) z↔Z rows z:=by
 have hl:=S.len
 have hc:c<rows.length:=by omega
 have ha':a<rows.length:=by omega
 obtain⟨R1,hR1⟩:∃ R1,swapR rows c a=R1:=⟨_,rfl⟩
 have l1:R1.length=m:=by rw[←hR1,swap_length,hl]
 have g1:∀ i,R1.getD i []=if i=a then rows.getD c [] else if i=c then rows.getD a [] else rows.getD i []:=fun i=>by rw[←hR1];exact swap_get hc ha' i
 have s1:Shape m n c R1:=by
  refine⟨l1,fun i hi=>?_,fun i t hi ht=>?_⟩
  ·rw[g1]
   split
   ·exact S.row c hcm
   ·split
    ·exact S.row a ham
    ·exact S.row i hi
  ·unfold E
   rw[g1]
   by_cases h1:i=a
   ·rw[if_pos h1,if_neg (by omega)]
    have:=S.unit c t hcm ht
    rw[if_neg (by omega)]at this;exact this
   ·rw[if_neg h1]
    by_cases h2:i=c
    ·rw[if_pos h2,if_neg (by omega)]
     have:=S.unit a t ham ht
     rw[if_neg (by omega)]at this;exact this
    ·rw[if_neg h2];exact S.unit i t hi ht
 have p1:E R1 c c≠0:=by
  unfold E
  rw[g1]
  by_cases h1:c=a
  ·rw[if_pos h1,h1];rw[←h1]at hz ⊢;exact hz
  ·rw[if_neg h1,if_pos rfl];exact hz
 obtain⟨R2,hR2⟩:∃ R2,normR R1 c=R2:=⟨_,rfl⟩
 have l2:R2.length=m:=by rw[←hR2,norm_length,l1]
 have g2:∀ i,R2.getD i []=if i=c then(R1.getD c []).map (· *(E R1 c c).inv) else R1.getD i []:=fun i=>by rw[←hR2];exact K_11z (by omega) i
 have e2:∀ i t,E R2 i t=if i=c then E R1 c t*(E R1 c c).inv else E R1 i t:=fun i t=>by
  unfold E
  rw[g2]
  split
  ·exact getD_map0 (· *_) (F.zero_mul _) _ _
  ·rfl
 have r2:∀ i,i<m→(R2.getD i []).length=n+1:=fun i hi=>by
  rw[g2]
  split
  ·rw[List.length_map];exact s1.row c hcm
  ·exact s1.row i hi
 have u2:E R2 c c=1:=by rw[e2,if_pos rfl,F.mul_inv p1]
 have v2:∀ t,t<c→E R2 c t=0:=fun t ht=>by
  rw[e2,if_pos rfl,s1.unit c t hcm ht,if_neg (by omega),F.zero_mul]
 have w2:∀ i t,i<m→t<c→E R2 i t=if i=t then 1 else 0:=fun i t hi ht=>by
  by_cases h:i=c
  ·subst h;rw[v2 t ht,if_neg (by omega)]
  ·rw[e2,if_neg h];exact s1.unit i t hi ht
 refine⟨⟨by rw[hR1,hR2,elim_length,l2],fun i hi=>?_,fun i t hi ht=>?_⟩,fun z=>?_⟩
 ·rw[hR1,hR2,elim_get (by omega)]
  split
  ·exact r2 i hi
  ·unfold lessR
   rw[xorR_length (by rw[List.length_map,r2 i hi,r2 c hcm])]
   exact r2 i hi
 ·rw[hR1,hR2]
  have e3:E (elimR R2 c) i t=if i=c then E R2 c t else E R2 i t+E R2 i c*E R2 c t:=by
   unfold E
   rw[elim_get (by omega)]
   split
   ·rename_i h;rw[h]
   ·unfold lessR
    rw[getD_xorR _ (by rw[List.length_map,r2 i hi,r2 c hcm]),getD_map0 _ (F.mul_zero _)]
  rw[e3]
  by_cases h:i=c
  ·subst h
   rw[if_pos rfl]
   by_cases ht2:t=i
   ·subst ht2;rw[if_pos rfl,u2]
   ·rw[if_neg (by omega),v2 t (by omega)]
  ·rw[if_neg h]
   by_cases ht2:t=c
   ·subst ht2;rw[u2,F.mul_one,F.add_self,if_neg h]
   ·rw[v2 t (by omega),F.mul_zero,F.add_zero];exact w2 i t hi (by omega)
 ·rw[hR1,hR2,K_1mn (by omega) (m:=n+1) (fun i hi=>r2 i (by omega)),←hR2,K_1mi (by omega) p1,←hR1,K_1lx hc ha']
theorem K_z8:∀ (l z:List F) (i c:Nat),i<c→l.length=z.length→c<l.length→l.getD i 0=1→(∀ t,t≠i→t≠c→l.getD t 0=0∨z.getD t 0=0)→dot l z=z.getD i 0+l.getD c 0*z.getD c 0
 | [],_,_,_,_,_,h,_,_=>by simp at h
 | _ :: _,[],_,_,_,h,_,_,_=>by simp at h
 | a :: l,b :: z,i,0,h,_,_,_,_=>by omega
 | a :: l,b :: z,0,c+1,_,hl,hc,h1,h0=>by
  have ha:a=1:=by simpa using h1
  have one:∀ (l z:List F) (c:Nat),l.length=z.length→c<l.length→(∀ t,t≠c→l.getD t 0=0∨z.getD t 0=0)→dot l z=l.getD c 0*z.getD c 0:=by
   have none:∀ (l z:List F),(∀ t,l.getD t 0=0∨z.getD t 0=0)→dot l z=0:=by
    intro l
    induction l with
    | nil=>intro z _;rfl
    | cons a l ih=>
     intro z h
     cases z with
     | nil=>rfl
     | cons b z=>
      have h0:=h 0
      rw[K_61,ih z fun t=>by simpa using h (t+1)]
      rcases h0 with h0 | h0
      ·have:a=0:=by simpa using h0
       rw[this,F.zero_mul,F.add_zero]
      ·have:b=0:=by simpa using h0
       rw[this,F.mul_zero,F.add_zero]
   intro l
   induction l with
   | nil=>intro z c _ h _;simp at h
   | cons a l ih=>
    intro z c hl hc h
    cases z with
    | nil=>simp at hl
    | cons b z=>
     cases c with
     | zero=>
      rw[K_61,none l z fun t=>by simpa using h (t+1) (by omega),F.add_zero];rfl
     | succ c=>
      have h0:=h 0 (by omega)
      rw[K_61,ih z c (by simpa using hl) (by simpa using hc) fun t ht=>by simpa using h (t+1) (by omega)]
      have:a*b=0:=by
       rcases h0 with h0 | h0
       ·have:a=0:=by simpa using h0
        rw[this,F.zero_mul]
       ·have:b=0:=by simpa using h0
        rw[this,F.mul_zero]
      rw[this,F.zero_add];simp
  rw[K_61,one l z c (by simpa using hl) (by simpa using hc) fun t ht=>by simpa using h0 (t+1) (by omega) (by omega),ha,F.one_mul]
  simp
 | a :: l,b :: z,i+1,c+1,h,hl,hc,h1,h0=>by
  have h00:=h0 0 (by omega) (by omega)
  have:a*b=0:=by
   rcases h00 with h0 | h0
   ·have:a=0:=by simpa using h0
    rw[this,F.zero_mul]
   ·have:b=0:=by simpa using h0
    rw[this,F.mul_zero]
  rw[K_61,this,F.zero_add,K_z8 l z i c (by omega) (by simpa using hl) (by simpa using hc) (by simpa using h1) fun t h1 h2=>by simpa using h0 (t+1) (by omega) (by omega)]
  simp
theorem K_1a4:∀ (l z:List F) (c:Nat),l.length=z.length→c<l.length→(∀ t,t≠c→l.getD t 0=0∨z.getD t 0=0)→dot l z=l.getD c 0*z.getD c 0:=by
 intro l z c hl hc h
 have:=K_z8 (1 :: l) (0 :: z) 0 (c+1) (by omega) (by simpa using hl) (by simpa using hc) rfl (fun t h1 h2=>by
  cases t with
  | zero=>omega
  | succ t=>simpa using h t (by omega))
 rw[K_61,F.mul_zero,F.zero_add]at this
 rw[this]
 simp[F.zero_add]
theorem K_11g{m n c:Nat}{rows:List (List F)}(S:Shape m n c rows)(hcn:c<n)(hker:∀ y,y.length=n→Z rows (y ++ [0])→∀ v∈y,v=0):
  ∃ a,pivotG rows c (rows.length - c) c=some a∧c≤a∧a<m∧E rows a c≠0:=by
 cases h:pivotG rows c (rows.length - c) c with
 | some a=>
  have:=pivot_some _ _ _ h
  have:=S.len
  exact⟨a,rfl,by omega,by omega,(pivot_some _ _ _ h).2.2⟩
 | none=>
  exfalso
  have hn:=K_15m _ _ h
  have hl:=S.len
  obtain⟨y,hy⟩:∃ y:List F,y=(List.range n).map fun t=>if t<c then E rows t c else if t=c then 1 else 0:=⟨_,rfl⟩
  have ylen:y.length=n:=by rw[hy];simp
  have yget:∀ t,(y ++ [0]).getD t 0=if t<c then E rows t c else if t=c then 1 else 0:=fun t=>by
   by_cases ht:t<n
   ·rw[List.getD_eq_getElem?_getD,List.getElem?_append_left (by omega),hy]
    simp[ht]
   ·rw[if_neg (by omega),if_neg (by omega)]
    by_cases ht2:t=n
    ·subst ht2;rw[List.getD_eq_getElem?_getD,List.getElem?_append_right (by omega)];simp[ylen]
    ·rw[List.getD_eq_getElem?_getD,List.getElem?_eq_none (by simp;omega)];rfl
  have hz:Z rows (y ++ [0]):=by
   rw[Z_iff]
   intro i hi
   have hrl:=S.row i (by omega)
   by_cases hic:i<c
   ·rw[K_z8 _ _ i c hic (by rw[hrl];simp[ylen]) (by omega) (by have:=S.unit i i (by omega) hic;rw[if_pos rfl]at this;exact this) (fun t h1 h2=>by
     by_cases ht:t<c
     ·left;have:=S.unit i t (by omega) ht;rw[if_neg (Ne.symm h1)]at this;exact this
     ·right;rw[yget,if_neg ht,if_neg h2]),yget,yget,if_pos hic,if_neg (Nat.lt_irrefl c),if_pos rfl,F.mul_one]
    exact F.add_self _
   ·rw[K_1a4 _ _ c (by rw[hrl];simp[ylen]) (by omega) (fun t h1=>by
     by_cases ht:t<c
     ·left;have:=S.unit i t (by omega) ht;rw[if_neg (by omega)]at this;exact this
     ·right;rw[yget,if_neg ht,if_neg h1])]
    have:=hn i (by omega) (by omega)
    unfold E at this
    rw[this,F.zero_mul]
  have hone:(1:F)∈y:=by
   rw[hy]
   exact List.mem_map.2 ⟨c,by simpa using hcn,by simp⟩
  exact F.one_ne_zero (hker y ylen hz 1 hone)
theorem K_ym{m n:Nat}{rows0:List (List F)}(hker:∀ y,y.length=n→Z rows0 (y ++ [0])→∀ v∈y,v=0):
  ∀ (d c:Nat) (rows:List (List F)),c+d=n→Shape m n c rows→(∀ z,Z rows z↔Z rows0 z)→∃ R,solveG rows d c=some R∧Shape m n n R∧∀ z,Z R z↔Z rows0 z
 | 0,c,rows,hcd,S,hZ=>⟨rows,rfl,(show c=n by omega) ▸ S,hZ⟩
 | d+1,c,rows,hcd,S,hZ=>by
  obtain⟨a,h1,h2,h3,h4⟩:=K_11g S (by omega) fun y hy hz=>hker y hy ((hZ _).1 hz)
  obtain⟨S',hZ'⟩:=K_1ej S (by omega) h2 h3 h4
  obtain⟨R,hR,hS,hz⟩:=K_ym hker d (c+1) _ (by omega) S' fun z=>(hZ' z).trans (hZ z)
  refine⟨R,?_,hS,hz⟩
  show (stepS rows c).bind _=_
  unfold stepS
  rw[h1]
  exact hR
theorem K_14a{n:Nat}{rows:List (List F)}(hl:∀ r∈rows,r.length=n+1)(hker:∀ y,y.length=n→Z rows (y ++ [0])→∀ v∈y,v=0)(y:List F):
  solve n rows=some y↔y.length=n∧Z rows (y ++ [1]):=by
 have S0:Shape rows.length n 0 rows:=⟨rfl,fun i hi=>by
  rw[List.getD_eq_getElem?_getD,List.getElem?_eq_getElem hi];exact hl _ (List.getElem_mem hi),fun _ _ _ h=>by omega⟩
 obtain⟨R,hR,S,hZ⟩:=K_ym hker n 0 rows (by omega) S0 fun _=>Iff.rfl
 have hRl:=S.len
 have hnm:n≤rows.length:=by
  apply Classical.byContradiction
  intro hc
  have hlt:rows.length<n:=by omega
  have S':Shape rows.length n rows.length R:=⟨S.len,S.row,fun i t hi ht=>S.unit i t hi (by omega)⟩
  obtain⟨a,_,h2,h3,_⟩:=K_11g S' hlt fun y hy hz=>hker y hy ((hZ _).1 hz)
  omega
 unfold solve
 rw[hR,Option.bind_some]
 have key:∀ (y:List F) (i:Nat),y.length=n→i<rows.length→dot (R.getD i []) (y ++ [1])=(if i<n then y.getD i 0 else 0)+E R i n:=by
  intro y i hy hi
  have hrl:=S.row i hi
  have y1:(y ++ [1]).getD n 0=(1:F):=by
   rw[List.getD_eq_getElem?_getD,List.getElem?_append_right (by omega)];simp[hy]
  by_cases hin:i<n
  ·rw[if_pos hin,K_z8 _ _ i n hin (by rw[hrl];simp[hy]) (by omega) (by have:=S.unit i i hi hin;rw[if_pos rfl]at this;exact this) (fun t h1 h2=>by
    by_cases ht:t<n
    ·left;have:=S.unit i t hi ht;rw[if_neg (Ne.symm h1)]at this;exact this
    ·left;rw[List.getD_eq_getElem?_getD,List.getElem?_eq_none (by omega)];rfl),y1,F.mul_one]
   congr 1
   rw[List.getD_eq_getElem?_getD,List.getElem?_append_left (by omega),List.getD_eq_getElem?_getD]
  ·rw[if_neg hin,K_1a4 _ _ n (by rw[hrl];simp[hy]) (by omega) (fun t h1=>by
    by_cases ht:t<n
    ·left;have:=S.unit i t hi ht;rw[if_neg (by omega)]at this;exact this
    ·left;rw[List.getD_eq_getElem?_getD,List.getElem?_eq_none (by omega)];rfl),y1,F.mul_one,F.zero_add]
   rfl
 have hall:∀ y:List F,y.length=n→(Z rows (y ++ [1])↔((∀ i,i<n→y.getD i 0=E R i n)∧∀ i,n≤i→i<R.length→E R i n=0)):=by
  intro y hy
  rw[←hZ,Z_iff]
  constructor
  ·intro h
   refine⟨fun i hi=>?_,fun i h1 h2=>?_⟩
   ·have:=h i (by omega)
    rw[key y i hy (by omega),if_pos hi]at this
    exact F.eq_of_add this
   ·have:=h i h2
    rw[key y i hy (by omega),if_neg (by omega),F.zero_add]at this
    exact this
  ·rintro⟨h1,h2⟩ i hi
   rw[key y i hy (by omega)]
   by_cases hin:i<n
   ·rw[if_pos hin,h1 i hin,F.add_self]
   ·rw[if_neg hin,h2 i (by omega) hi,F.add_zero]
 have hrest:restG R n (R.length - n) n=true↔∀ i,n≤i→i<R.length→E R i n=0:=by
  rw[K_17q]
  constructor
  ·intro h i h1 h2;exact h i h1 (by omega)
  ·intro h i h1 h2;exact h i h1 (by omega)
 constructor
 ·intro h
  split at h
  ·rename_i hc
   have hc:=hrest.1 hc
   obtain rfl:=Option.some.inj h
   have hlen:((List.range n).map fun c=>E R c n).length=n:=by simp
   refine⟨hlen,(hall _ hlen).2 ⟨fun i hi=>?_,hc⟩⟩
   rw[List.getD_eq_getElem?_getD];simp[hi]
  ·cases h
 ·rintro⟨hlen,h⟩
  obtain⟨h1,h2⟩:=(hall y hlen).1 h
  rw[if_pos (hrest.2 h2)]
  congr 1
  apply List.ext_getElem (by simp[hlen])
  intro i h3 h4
  have h5:i<n:=by simpa using h3
  have:=h1 i h5
  rw[List.getD_eq_getElem?_getD,List.getElem?_eq_getElem (by omega)]at this
  simpa using this.symm
end Go.Gf

namespace Go.Gf
def timesX(g:List F)(a:F):List F:=xorR (g ++ [0]) (0 :: g.map (· *a))
def genL:List F:=timesX (timesX (timesX (timesX [1] (tj 0)) (tj 1)) (tj 2)) (tj 3)
def genT:List F:=genL.tail
theorem K_163:genL=1 :: genT:=by decide+kernel
theorem K_um:genT.length=4:=by decide+kernel
theorem K_1g3:∀ j,j<4→hor (tj j) genL=0:=by decide+kernel
def addHead:List F→List F→List F
 | a :: m,b :: l=>(a+b) :: addHead m l
 | _,l=>l
theorem K_b6:∀ m l:List F,(addHead m l).length=l.length
 | [],l=>by cases l <;> rfl
 | _ :: _,[]=>rfl
 | a :: m,b :: l=>by simp[addHead,K_b6 m l]
theorem K_11d(x:F):∀ (m l:List F),m.length≤l.length→hor x (addHead m l)=hor x l+hor x m*F.pow x (l.length - m.length)
 | [],l,_=>by
  have:addHead [] l=l:=by cases l <;> rfl
  rw[this,K_z7,F.zero_mul,F.add_zero]
 | a :: m,[],h=>by simp at h
 | a :: m,b :: l,h=>by
  have h':m.length≤l.length:=by simpa using h
  show hor x ((a+b) :: addHead m l)=_
  rw[K_2k,K_2k,K_2k,K_11d x m l h',K_b6,F.add_mul,F.add_mul,F.mul_assoc]
  have e:F.pow x m.length*F.pow x ((b :: l).length - (a :: m).length)=F.pow x l.length:=by
   rw[←F.pow_add];congr 1;simp only[List.length_cons];omega
  have e2:(b :: l).length - (a :: m).length=l.length - m.length:=by simp
  rw[e,e2]
  simp only[F.add_assoc,F.add_comm,F.add_left_comm]
def divR:Nat→List F→List F
 | n+1,c :: l=>divR n (addHead (genT.map (c* ·)) l)
 | _,l=>l
theorem K_11f:∀ (n:Nat) (l:List F),n≤l.length→(divR n l).length=l.length - n
 | 0,l,_=>by cases l <;> rfl
 | n+1,[],h=>by simp at h
 | n+1,c :: l,h=>by
  show (divR n (addHead _ l)).length=_
  rw[K_11f n _ (by rw[K_b6];simpa using h),K_b6]
  simp
theorem K_1de(x c:F):∀ l:List F,hor x (l.map (c* ·))=c*hor x l
 | []=>by rw[List.map_nil,K_z7,F.mul_zero]
 | a :: l=>by rw[List.map_cons,K_2k,K_2k,K_1de x c l,F.mul_add,List.length_map,F.mul_assoc]
theorem K_1c0{j:Nat}(hj:j<4):∀ (n:Nat) (l:List F),n+4≤l.length→hor (tj j) (divR n l)=hor (tj j) l
 | 0,l,_=>by cases l <;> rfl
 | n+1,[],h=>by simp at h
 | n+1,c :: l,h=>by
  have hl:n+4≤l.length:=by simp at h;omega
  show hor (tj j) (divR n (addHead _ l))=_
  rw[K_1c0 hj n _ (by rw[K_b6];exact hl),K_11d _ _ _ (by rw[List.length_map,K_um];omega),K_2k,K_1de,List.length_map,K_um]
  have hg:=K_1g3 j hj
  rw[K_163,K_2k,K_um,F.one_mul]at hg
  rw[←F.eq_of_add hg,F.mul_assoc,←F.pow_add,show 4+(l.length - 4)=l.length by omega,F.add_comm]
def remP(b:List F):List F:=divR b.length (b ++ [0,0,0,0])
def codedP(b:List F):List F:=b ++ remP b
theorem K_qp(b:List F):(remP b).length=4:=by
 unfold remP
 rw[K_11f _ _ (by simp)]
 simp
theorem K_1f0(x:F):hor x [0,0,0,0]=0:=by
 simp only[K_2k,K_z7,F.zero_mul,F.add_zero]
theorem K_1ji(b:List F){j:Nat}(hj:j<4):hor (tj j) (remP b)=hor (tj j) (b ++ [0,0,0,0]):=K_1c0 hj _ _ (by simp)
theorem codedP_length(b:List F):(codedP b).length=b.length+4:=by unfold codedP;rw[List.length_append,K_qp]
def eqnR(s:Nat→F)(j:Nat):List F:=[tj (3*j),tj (2*j),tj j,1,s j]
def eqnsR(s:Nat→F):List (List F):=[eqnR s 0,eqnR s 1,eqnR s 2,eqnR s 3]
theorem K_19t(k j:Nat):tj (k*j)=F.pow (tj j) k:=by
 unfold tj;rw[Nat.mul_comm,F.pow_mul]
theorem K_1d0(s:Nat→F)(j:Nat)(x:List F)(hx:x.length=4)(v:F):dot (eqnR s j) (x ++ [v])=hor (tj j) x+s j*v:=by
 match x,hx with
 | [a,b,c,d],_=>
  show tj (3*j)*a+(tj (2*j)*b+(tj j*c+(1*d+(s j*v+0))))=hor (tj j) [a,b,c,d] +s j*v
  simp only[K_2k,K_z7,List.length_cons,List.length_nil]
  rw[K_19t 3 j,K_19t 2 j,F.pow_zero,F.one_mul,F.mul_one,F.add_zero,F.add_zero,F.mul_comm a,F.mul_comm b,F.mul_comm c]
  show F.pow (tj j) 3*a+(F.pow (tj j) 2*b+(tj j*c+(d+s j*v)))=F.pow (tj j) 3*a+(F.pow (tj j) 2*b+(F.pow (tj j) 1*c+d))+s j*v
  rw[K_86]
  simp only[F.add_assoc]
theorem K_1a0{s:Nat→F}{z:List F}:Z (eqnsR s) z↔∀ j,j<4→dot (eqnR s j) z=0:=by
 constructor
 ·intro h j hj
  match j,hj with
  | 0,_=>exact h _ (by simp[eqnsR])
  | 1,_=>exact h _ (by simp[eqnsR])
  | 2,_=>exact h _ (by simp[eqnsR])
  | 3,_=>exact h _ (by simp[eqnsR])
 ·intro h r hr
  simp only[eqnsR,List.mem_cons,List.not_mem_nil,or_false]at hr
  rcases hr with rfl | rfl | rfl | rfl
  ·exact h 0 (by decide)
  ·exact h 1 (by decide)
  ·exact h 2 (by decide)
  ·exact h 3 (by decide)
theorem solve_coded(b:List F):solve 4 (eqnsR fun j=>hor (tj j) (b ++ [0,0,0,0]))=some (remP b):=by
 refine(K_14a (fun r hr=>?_) (fun y hy hz=>?_) _).2 ⟨K_qp b,?_⟩
 ·simp only[eqnsR,List.mem_cons,List.not_mem_nil,or_false]at hr
  rcases hr with rfl | rfl | rfl | rfl <;> rfl
 ·rw[K_1a0]at hz
  have hr:Right y:=fun j hj=>by
   have:=hz j hj
   rw[K_1d0 _ _ _ hy,F.mul_zero,F.add_zero]at this
   exact this
  have hzero:Right [0,0,0,0]:=fun j _=>K_1f0 _
  have hfar:far y [0,0,0,0]≤4:=by
   unfold far
   have h1:∀ l:List F,(supp l).length≤l.length:=by
    intro l
    induction l with
    | nil=>exact Nat.le_refl _
    | cons c l ih=>rw[K_h6];split <;> simp only[List.length_cons] <;> omega
   have:=h1 (xorR y [0,0,0,0])
   rw[xorR_length hy]at this
   omega
  have:=K_17u (m:=[0,0,0,0]) hy (by omega) hr hzero hfar
  subst this
  simp
 ·rw[K_1a0]
  intro j hj
  rw[K_1d0 _ _ _ (K_qp b),F.mul_one,K_1ji b hj,F.add_self]
end Go.Gf

namespace Go.Sh
open Go.Fw Go.Gf Go.RowKit Go.Proofs.Tryd
def bF(a:F):Int:=(a.n:Int)
def toF(x:Int):F:=⟨x.toNat % 256,Nat.mod_lt _ (by decide)⟩
theorem K_1bz(a:F):toF (bF a)=a:=F.ext' (by show (Int.toNat (a.n:Int)) % 256=a.n;rw[J_tn,Nat.mod_eq_of_lt a.lt])
theorem K_1m2{x:Int}(h:InK .u8 x):bF (toF x)=x:=by
 obtain⟨a,rfl,ha⟩:=h.nat
 have ha:a<256:=ha
 show ((Int.toNat (a:Int) % 256:Nat):Int)=a
 rw[J_tn,Nat.mod_eq_of_lt ha]
theorem K_1g5{a b:F}(h:bF a=bF b):a=b:=by rw[←K_1bz a,h,K_1bz]
theorem bF_eq{a b:F}:bF a=bF b↔a=b:=⟨K_1g5,fun h=>by rw[h]⟩
theorem bF_in(a:F):InK .u8 (bF a):=⟨Int.natCast_nonneg _,by show (a.n:Int)<2 ^ 8;have:=a.lt;omega⟩
theorem K_1dn:bF 0=0:=rfl
theorem K_1bo:bF F.three=3:=rfl
theorem K_kh(a:F):((bF a == 0)=true)=(a=0):=by rw[beq_iff_eq,←K_1dn,bF_eq]
theorem K_xt(a:F):((bF a != 0)=true)=(a≠0):=by rw[bne_iff_ne,←K_1dn,ne_eq,bF_eq]
def fb(l:List F):List Value:=ints .u8 (l.map bF)
theorem K_1(l:List F):(fb l).length=l.length:=by unfold fb;rw[K_3,List.length_map]
theorem K_4s(l m:List F):fb (l ++ m)=fb l ++ fb m:=by unfold fb;rw[List.map_append,K_51]
theorem K_jo(l:List F)(n:Nat):(fb l).take n=fb (l.take n):=by unfold fb;rw[K_bp,List.map_take]
theorem K_17c(l:List F)(n:Nat):(fb l).drop n=fb (l.drop n):=by simp[fb,ints,List.map_drop]
theorem K_147(l:List F)(i:Nat)(a:F):(fb l).set i (.int .u8 (bF a))=fb (l.set i a):=by simp[fb,ints,List.map_set]
theorem K_1f2{l m:List F}(h:l.map bF=m.map bF):l=m:=by
 have:=congrArg (List.map toF) h
 simpa[List.map_map,Function.comp_def,K_1bz] using this
theorem K_18a{l m:List F}:l.map bF=m.map bF↔l=m:=⟨K_1f2,fun h=>by rw[h]⟩
theorem addF(a b:F):bits .xor .u8 (bF a) (bF b)=bF (a+b):=xor8 a.lt b.lt
theorem tm{K:Nat}(hK:300≤K)(a b:F):K_l K (bF a) (bF b)=some (bF (a*b),()):=K_1iu hK a.lt b.lt
theorem rtm{K:Nat}(hK:300≤K)(a b:F):K_aj K (bF a) (bF b)=some (bF (a*b),()):=K_1cn hK a.lt b.lt
theorem rtimes{K:Nat}(hK:300≤K)(a b:F):K_c K (bF a) (bF b)=some (bF (a*b),()):=by
 unfold K_c;rw[rtm hK,J_bs]
theorem K_1eb{K:Nat}(hK:300≤K)(n:Nat)(hn:n≤255):∀ (d i m:Nat) (v:F),i+d=n→d<m→
  K_3p K m (bF v) (n:Int) (i:Int)=some (.norm (bF (v*F.pow F.three d),())):=by
 intro d
 induction d with
 | zero=>
  intro i m v hi hm
  obtain⟨m,rfl⟩:∃ q,m=q+1:=⟨m - 1,by omega⟩
  show K_7q K (K_3p K m) (bF v) (n:Int) (i:Int)=_
  unfold K_7q
  rw[if_neg (by simp only[decide_eq_true_eq];omega),F.pow_zero,F.mul_one]
 | succ d ih=>
  intro i m v hi hm
  obtain⟨m,rfl⟩:∃ q,m=q+1:=⟨m - 1,by omega⟩
  have e3:IntKind.i64.wrap ((i:Int)+1)=((i+1:Nat):Int):=by rw[w64 (by omega) (by omega)];rfl
  have et:=tm hK v F.three
  rw[K_1bo]at et
  show K_7q K (K_3p K m) (bF v) (n:Int) (i:Int)=_
  unfold K_7q
  rw[if_pos (decide_eq_true (show (i:Int)<(n:Int) by omega)),et,J_bs,e3,ih (i+1) m _ (by omega) (by omega),F.pow_succ,F.mul_assoc,F.mul_comm F.three]
theorem K_u1{K:Nat}(hK:300≤K)(n:Nat):K_5c K (n:Int)=some (bF (tj n),()):=by
 have h1:Int.tmod (n:Int) 255=((n % 255:Nat):Int):=rfl
 have hl:n % 255<255:=Nat.mod_lt _ (by decide)
 have h2:=K_1eb hK (n % 255) (by omega) (n % 255) 0 K 1 (by omega) (by omega)
 rw[F.one_mul,K_12d]at h2
 unfold K_5c
 rw[h1]
 have h2:K_3p K K 1 ((n % 255:Nat):Int) 0=_:=h2
 rw[h2]
 rfl
theorem K_1b8{K:Nat}(hK:300≤K):∀ (d i m:Nat) (b v:F),i+d=7→d<m→
  K_2h K m (bF b) (bF v) (i:Int)=some (.norm (bF (invG d b v),())):=by
 intro d
 induction d with
 | zero=>
  intro i m b v hi hm
  obtain⟨m,rfl⟩:∃ q,m=q+1:=⟨m - 1,by omega⟩
  show K_5w K (K_2h K m) (bF b) (bF v) (i:Int)=_
  unfold K_5w
  rw[if_neg (by simp only[decide_eq_true_eq];omega)];rfl
 | succ d ih=>
  intro i m b v hi hm
  obtain⟨m,rfl⟩:∃ q,m=q+1:=⟨m - 1,by omega⟩
  have e3:IntKind.i64.wrap ((i:Int)+1)=((i+1:Nat):Int):=by rw[w64 (by omega) (by omega)];rfl
  show K_5w K (K_2h K m) (bF b) (bF v) (i:Int)=_
  unfold K_5w
  rw[if_pos (decide_eq_true (show (i:Int)<7 by omega)),tm hK,J_bs,tm hK,J_bs,e3,ih (i+1) m (b*b) (v*(b*b)) (by omega) (by omega)];rfl
theorem K_15b{K:Nat}(hK:300≤K)(b:F):K_64 K (bF b)=some (bF b.inv,()):=by
 have h:=K_1b8 hK 7 0 K b 1 (by omega) (by omega)
 have h:K_2h K K (bF b) 1 0=_:=h
 unfold K_64
 rw[h];rfl
theorem K_z9{K:Nat}(hK:300≤K)(a b:F):K_65 K (bF a) (bF b)=some (bF (a*b.inv),()):=by
 unfold K_65
 rw[K_15b hK,J_bs,tm hK,J_bs]
end Go.Sh

namespace Go.Sh
open Go.Fw Go.Gf Go.RowKit Go.Proofs.Tryd
def sumsL(l:List F):List F:=[sj l 0,sj l 1,sj l 2,sj l 3]
theorem K_1a{w:World}{s:Sl}{l:List F}(h:Src w s (fb l)){i:Nat}(hi:i<l.length):∃ p,s.a=some p∧ldI .u8 (p.add i) w=some (bF l[i]):=by
 obtain⟨p,p1,p2⟩:=h.rds.ld
 have hne:l.map bF≠[]:=fun e=>by have:=congrArg List.length e;simp at this;rw[this]at hi;simp at hi
 refine⟨p,p1 hne,?_⟩
 have:=p2 i (by rw[List.length_map];exact hi)
 rw[this,List.getElem_map]
theorem K_59{X:Nat→Prop}{w w':World}{s:Sl}{l:List F}(h:Src w s (fb l))(u:Upd X w w')(hn:∀ q,s.a=some q→l≠[]→¬X q.block):Src w' s (fb l):=
 ⟨h.len,h.cap,h.rd.imp id fun⟨p,hp,hr⟩=>⟨p,hp,hr.upd u fun hne=>hn p hp fun e=>hne (by rw[e];rfl)⟩,h.one⟩
theorem K_h5{w:World}{s:Sl}{l:List F}(hs:Src w s (fb l)):∀ q,s.a=some q→l≠[]→q.block<w.heap.size:=fun q hq hne=>by
 rcases hs.rd with ⟨a,_,_⟩ | ⟨p,a,h⟩
 ·rw[a]at hq;cases hq
 ·rw[a]at hq
  obtain rfl:=Option.some.inj hq
  exact h.lt fun e=>hne (by cases l with | nil=>rfl | cons _ _=>cases e)
theorem K_gf{e:TypeId}{w:World}{g:Nat}{S:List F}(h:Bk e w g (fb S)){j:Nat}(hj:j<S.length):ldI .u8 ⟨g,j,none⟩ w=some (bF S[j]):=by
 refine h.ldI ?_
 simp[fb,ints,hj]
theorem K_py{K:Nat}(hK:300≤K){b:Sl}{l:List F}{g:Nat}{e:TypeId}{x:F}{a2:Addr}{a8:Int}{j:Nat}(hj:j<4)(hl:l.length<9223372036854775807)(hg:∀ q,b.a=some q→l≠[]→q.block≠g):
  ∀ (d i m:Nat) (w:World) (S:List F),i+d=l.length→d<m→S.length=4→Bk e w g (fb S)→Src w b (fb l)→
   ∃ w',K_28 K m b a2 ⟨g,0,none⟩ (j:Int) (bF x) a8 b ((l.length:Nat):Int) (i:Int) w=some ((),w')∧Bk e w' g (fb (S.set j (horG x (l.drop i) (S.getD j 0))))∧Upd (· =g) w w':=by
 intro d
 induction d with
 | zero=>
  intro i m w S hi hm hS hb hs
  obtain⟨m,rfl⟩:∃ q,m=q+1:=⟨m - 1,by omega⟩
  refine⟨w,?_,?_,Upd.refl _ _⟩
  ·show K_66 K (K_28 K m) b a2 ⟨g,0,none⟩ (j:Int) (bF x) a8 b ((l.length:Nat):Int) (i:Int) w=_
   unfold K_66
   rw[if_neg (by simp only[decide_eq_true_eq];omega)]
  ·rw[List.drop_eq_nil_of_le (by omega)]
   have:S.set j (horG x [] (S.getD j 0))=S:=by
    show S.set j (S.getD j 0)=S
    rw[J_gd,J_ge (by omega)]
    exact List.set_getElem_self (by omega)
   rw[this];exact hb
 | succ d ih=>
  intro i m w S hi hm hS hb hs
  obtain⟨m,rfl⟩:∃ q,m=q+1:=⟨m - 1,by omega⟩
  have hbl:b.len=l.length:=by rw[hs.len,K_1]
  have hlne:l≠[]:=fun e=>by rw[e]at hi;simp at hi
  obtain⟨p,p1,p2⟩:=K_1a hs (i:=i) (by omega)
  have c1:(0:Int)≤(i:Int)∧(i:Int)<((b.len:Nat):Int):=by omega
  have c2:(0:Int)≤(j:Int)∧(j:Int)<((4:Nat):Int):=by omega
  have hc:=K_gf hb (j:=j) (by omega)
  have hgd:S[j]'(by omega)=S.getD j 0:=by rw[J_gd,J_ge (by omega)];rfl
  rw[hgd]at hc
  obtain⟨w1,s1,s2,s3⟩:=hb.stC (i:=j) (by rw[K_1];omega) (.int .u8 (bF (S.getD j 0*x+l[i]'(by omega))))
  rw[K_147]at s2
  have e3:IntKind.i64.wrap ((i:Int)+1)=((i+1:Nat):Int):=by rw[w64 (by omega) (by omega)];rfl
  obtain⟨w2,k1,k2,k3⟩:=ih (i+1) m w1 _ (by omega) (by omega) (by rw[List.length_set];exact hS) s2 (K_59 hs s3 fun q hq hne=>hg q hq hne)
  refine⟨w2,?_,?_,s3.trans' k3 fun _ _ e=>e⟩
  ·show K_66 K (K_28 K m) b a2 ⟨g,0,none⟩ (j:Int) (bF x) a8 b ((l.length:Nat):Int) (i:Int) w=_
   unfold K_66
   rw[if_pos (decide_eq_true (show (i:Int)<((l.length:Nat):Int) by omega)),p1,J_bs,if_pos c1,J_tn,Nat.mul_one,p2,J_bs,if_pos c2,J_tn,Nat.mul_one,add_lit,Nat.zero_add,hc,J_bs,tm hK,J_bs,if_pos c2,addF,s1,J_bs,e3,k1]
  ·have e4:(S.set j (S.getD j 0*x+l[i]'(by omega))).getD j 0=S.getD j 0*x+l[i]'(by omega):=by
    rw[J_gd,List.getElem?_set_self (by omega)];rfl
   rw[e4,List.set_set]at k2
   rw[List.drop_eq_getElem_cons (show i<l.length by omega)]
   exact k2
theorem K_k(l:List F):∀ v∈fb l,v.oneCell'=true:=fun v hv=>by obtain⟨x,_,rfl⟩:=List.mem_map.1 hv;rfl
theorem K_17n{K:Nat}(hK:18446744073709551616≤K){w:World}{b:Sl}{l:List F}(hs:Src w b (fb l))(hl:l.length<9223372036854775807):
  ∃ w',K_43 K b w=some (((fb (sumsL l)).toArray,()),w')∧Upd none_ w w':=by
 have hbl:b.len=l.length:=by rw[hs.len,K_1]
 have hlt:=K_h5 hs
 obtain⟨w1,a1,a2,a3,a4⟩:=K_9 z170 170 w
 obtain⟨w2,b1,b2,b3,b4⟩:=K_9 z170 170 w1
 have a2:Bk 170 w1 w.heap.size (fb [0,0,0,0]):=a2
 have b2:Bk 170 w2 w1.heap.size (fb [0,0,0,0]):=b2
 have hs2:=(hs.upd0 a3).upd0 b3
 have hg:∀ q,b.a=some q→l≠[]→q.block≠w1.heap.size:=fun q hq hne=>by have:=hlt q hq hne;omega
 obtain⟨w3,c1,c2,c3⟩:=K_py (K:=K) (by omega) (x:=tj 0) (a2:=⟨w.heap.size,0,none⟩) (a8:=((0:Nat):Int)) (j:=0) (by omega) hl hg l.length 0 K w2 [0,0,0,0] (by omega) (by omega) rfl b2 hs2
 have up:∀ {w w':World},Src w b (fb l)→Upd (· =w1.heap.size) w w'→Src w' b (fb l):=fun h u=>K_59 h u fun q hq hne=>hg q hq hne
 have hs3:=up hs2 c3
 obtain⟨w4,d1,d2,d3⟩:=K_py (K:=K) (by omega) (x:=tj 1) (a2:=⟨w.heap.size,0,none⟩) (a8:=((1:Nat):Int)) (j:=1) (by omega) hl hg l.length 0 K w3 _ (by omega) (by omega) (by rfl) c2 hs3
 have hs4:=up hs3 d3
 obtain⟨w5,e1,e2,e3⟩:=K_py (K:=K) (by omega) (x:=tj 2) (a2:=⟨w.heap.size,0,none⟩) (a8:=((2:Nat):Int)) (j:=2) (by omega) hl hg l.length 0 K w4 _ (by omega) (by omega) (by rfl) d2 hs4
 have hs5:=up hs4 e3
 obtain⟨w6,f1,f2,f3⟩:=K_py (K:=K) (by omega) (x:=tj 3) (a2:=⟨w.heap.size,0,none⟩) (a8:=((3:Nat):Int)) (j:=3) (by omega) hl hg l.length 0 K w5 _ (by omega) (by omega) (by rfl) e2 hs5
 have f2:Bk 170 w6 w1.heap.size (fb (sumsL l)):=f2
 have u26:=((c3.trans' d3 fun _ _ e=>e).trans' e3 fun _ _ e=>e).trans' f3 fun _ _ e=>e
 have a6:=(a2.upd0 b3).upd u26 (by omega)
 have g1:=f2.ldA (i:=0) (n:=4) (by rw[K_1];simp[sumsL])
 obtain⟨w7,h1,h2,h3⟩:=a6.stA (o:=0) (vs:=(fb (sumsL l)).toArray) (by simp[fb,ints,sumsL]) (fun v hv=>K_k _ v hv)
 have h2:Bk 170 w7 w.heap.size (fb (sumsL l)):=h2
 have g2:=h2.ldA (i:=0) (n:=4) (by rw[K_1];simp[sumsL])
 have g1:ldA 4 ⟨w1.heap.size,0,none⟩ w6=some (fb (sumsL l)).toArray:=g1
 have g2:ldA 4 ⟨w.heap.size,0,none⟩ w7=some (fb (sumsL l)).toArray:=g2
 obtain⟨k,hk⟩:∃ k,K=k+5:=⟨K - 5,by omega⟩
 have step:∀ (m j:Nat) (v v':World),j<4→(K_28 K K b ⟨w.heap.size,0,none⟩ ⟨w1.heap.size,0,none⟩ (j:Int) (bF (tj j)) (j:Int) b ((l.length:Nat):Int) ((0:Nat):Int) v=some ((),v'))→K_10 K (m+1) b ⟨w.heap.size,0,none⟩ ⟨w1.heap.size,0,none⟩ (j:Int) v=K_10 K m b ⟨w.heap.size,0,none⟩ ⟨w1.heap.size,0,none⟩ ((j+1:Nat):Int) v':=by
  intro m j v v' hj h
  have h:K_28 K K b ⟨w.heap.size,0,none⟩ ⟨w1.heap.size,0,none⟩ (j:Int) (bF (tj j)) (j:Int) b ((l.length:Nat):Int) 0 v=some ((),v'):=h
  show K_6k K (K_10 K m) b ⟨w.heap.size,0,none⟩ ⟨w1.heap.size,0,none⟩ (j:Int) v=_
  unfold K_6k
  rw[if_pos (decide_eq_true (show (j:Int)<4 by omega)),K_u1 (by omega),J_bs]
  dsimp only
  rw[hbl,h,bnd_ok,w64 (by omega) (by omega)];rfl
 have hl0:K_10 K K b ⟨w.heap.size,0,none⟩ ⟨w1.heap.size,0,none⟩ ((0:Nat):Int) w2=some ((),w6):=by
  have fin:∀ m v,K_10 K (m+1) b ⟨w.heap.size,0,none⟩ ⟨w1.heap.size,0,none⟩ ((4:Nat):Int) v=some ((),v):=fun m v=>by
   show K_6k K (K_10 K m) b ⟨w.heap.size,0,none⟩ ⟨w1.heap.size,0,none⟩ ((4:Nat):Int) v=_
   unfold K_6k
   rw[if_neg (by decide)]
  have gen:∀ n,n=k+5→K_10 K n b ⟨w.heap.size,0,none⟩ ⟨w1.heap.size,0,none⟩ ((0:Nat):Int) w2=some ((),w6):=fun n hn=>by
   rw[hn,step (k+4) 0 _ _ (by omega) c1,step (k+3) 1 _ _ (by omega) d1,step (k+2) 2 _ _ (by omega) e1,step (k+1) 3 _ _ (by omega) f1,fin]
  exact gen K hk
 refine⟨w7,?_,((a3.and0 b3).trans' u26 fun j hj e=>by omega).trans' h3 fun j hj e=>by omega⟩
 unfold K_43
 have hl0:K_10 K K b ⟨w.heap.size,0,none⟩ ⟨w1.heap.size,0,none⟩ 0 w2=some ((),w6):=hl0
 rw[a1,bnd_ok,b1,bnd_ok,hl0,bnd_ok,g1,J_bs,if_pos (by simp[fb,ints,sumsL]),h1,J_bs,g2,J_bs]
end Go.Sh

namespace Go.Sh
open Go.Fw Go.RowKit Go.Proofs.Tryd
theorem sliceB:OneSlice prog 23 5 (.int .u8 0) 1:=⟨by kernel_rfl,⟨t5,by kernel_rfl,by kernel_rfl,by kernel_rfl,by kernel_rfl⟩,by decide,rfl,rfl⟩
theorem K_162(K:Nat){a b:Sl}{xs ys:List Int}(hl:xs.length=ys.length)(hs:xs.length<9223372036854775807):
  ∀ (d i:Nat) (n:Nat) (w:World),i+d=xs.length→d<n→RdS .u8 w a xs→RdS .u8 w b ys→
   ∃ w',K_2e K n a b (i:Int) w=some (if xs.drop i=ys.drop i then .norm () else .ret (false,()),w')∧Upd none_ w w':=by
 intro d
 induction d with
 | zero=>
  intro i n w hi hn ha hb
  obtain⟨n,rfl⟩:∃ m,n=m+1:=⟨n - 1,by omega⟩
  refine⟨w,?_,Upd.refl _ w⟩
  show K_42 K (K_2e K n) a b (i:Int) w=_
  have e1:xs.drop i=[]:=List.drop_eq_nil_of_le (by omega)
  have e2:ys.drop i=[]:=List.drop_eq_nil_of_le (by omega)
  simp[K_42,ha.len,show ¬i<xs.length by omega,e1,e2]
 | succ d ih=>
  intro i n w hi hn ha hb
  obtain⟨n,rfl⟩:∃ m,n=m+1:=⟨n - 1,by omega⟩
  show ∃ w',K_42 K (K_2e K n) a b (i:Int) w=_∧_
  obtain⟨p,hp,hpl⟩:=ha.drew.ld
  obtain⟨q,hq,hql⟩:=hb.drew.ld
  have hx:xs≠[]:=by rintro rfl;simp at hi
  have hy:ys≠[]:=fun e=>by rw[e]at hl;simp at hl;exact hx hl
  have hil:i<xs.length:=by omega
  have hil2:i<ys.length:=by omega
  have hw:IntKind.i64.wrap ((i:Int)+1)=((i+1:Nat):Int):=by rw[w64 (by omega) (by omega)];rfl
  have e1:xs.drop i=xs[i] :: xs.drop (i+1):=List.drop_eq_getElem_cons hil
  have e2:ys.drop i=ys[i] :: ys.drop (i+1):=List.drop_eq_getElem_cons hil2
  have l1:=hpl i hil
  have l2:=hql i hil2
  by_cases hne:xs[i]=ys[i]
  ·obtain⟨w',h1,h2⟩:=ih (i+1) n w.drew (by omega) (by omega) ha.drew hb.drew
   refine⟨w',?_,?_⟩
   ·simp only[K_42,ha.len,hb.len,Int.ofNat_lt,hil,hil2,decide_true,if_true,hp hx,hq hy,J_bs,Int.natCast_nonneg,and_self,J_tn,Nat.mul_one,l1,l2,hne,bne_self_eq_false,Bool.false_eq_true,if_false,hw,h1,e1,e2,List.cons.injEq,true_and]
   ·exact(Upd.refl none_ w).drew.trans' h2 fun _ _ e=>e
  ·refine⟨w.drew,?_,(Upd.refl none_ w).drew⟩
   have hb':(xs[i] != ys[i])=true:=by simpa using hne
   simp only[K_42,ha.len,hb.len,Int.ofNat_lt,hil,hil2,decide_true,if_true,hp hx,hq hy,J_bs,Int.natCast_nonneg,and_self,J_tn,Nat.mul_one,l1,l2,hb',e1,e2,List.cons.injEq,hne,false_and,if_false]
theorem K_nl{K:Nat}(hK:18446744073709551616≤K){a b:Sl}{xs ys:List Int}{w:World}(ha:RdS .u8 w a xs)(hb:RdS .u8 w b ys)(hs:xs.length<9223372036854775807):
  ∃ w',K_3b K a b w=some ((decide (xs=ys),()),w')∧Upd none_ w w':=by
 by_cases hl:xs.length=ys.length
 ·obtain⟨w',h1,h2⟩:=K_162 K (a:=a) (b:=b) hl hs xs.length 0 K w (by omega) (by omega) ha hb
  refine⟨w',?_,h2⟩
  have h1':K_2e K K a b 0 w=_:=h1
  simp only[K_3b,ha.len,hb.len,hl,bne_self_eq_false,Bool.false_eq_true,if_false,h1',bnd_ok,List.drop_zero]
  by_cases h:xs=ys <;> simp[h]
 ·refine⟨w,?_,Upd.refl _ w⟩
  have h1:(((xs.length:Nat):Int) != ((ys.length:Nat):Int))=true:=by simp;omega
  have h2:xs≠ys:=fun e=>hl (by rw[e])
  simp only[K_3b,ha.len,hb.len,h1,if_true,h2,decide_false]
end Go.Sh

namespace Go.Sh
open Go.Fw Go.RowKit Go.Proofs.Tryd
def marks:List Int:=(List.range 70).map fun i=>(((181+i) % 256:Nat):Int)
end Go.Sh

namespace Go.Sh
open Go.Fw Go.RowKit Go.Proofs.Tryd
theorem K_19v{w:World}{g cap:Nat}{bs:List Int}(h:OwnS 5 w ⟨some ⟨g,0,none⟩,bs.length+70,cap⟩ (ints .u8 (bs ++ marks))):
  OwnS 5 w ⟨some ⟨g,0,none⟩,bs.length,cap⟩ (ints .u8 bs):=by
 have:=h.cut (n:=bs.length) (Nat.le_add_right _ _)
 rw[K_bp,List.take_left]at this
 exact this
end Go.Sh

namespace Go.Sh
open Go.Fw Go.Gf Go.RowKit Go.Proofs.Tryd
theorem K_n1{P:Program}{t e:TypeId}{z:Value}{bytes:Nat}(T:OneSlice P t e z bytes)(w:World):
  ∃ w',bldS P t 0 #[] w=some (⟨some ⟨w.heap.size,0,none⟩,0,0⟩,w')∧OwnS e w' ⟨some ⟨w.heap.size,0,none⟩,0,0⟩ []∧Upd none_ w w':=by
 obtain⟨i,hi,hsz,hz,hby⟩:=T.info
 have hr:(Instr.buildSlice t 0 #[]).run P w= .ok (.slice (some ⟨w.heap.size,0,none⟩) 0 0) (w.alloc (.cells #[] e)):=by
  simp[Instr.buildSlice,run_underlying T.ht,sizeOf,typeInfo,hi,newRow,Instr.fill,show Array.range 0= #[] from rfl]
 refine⟨w.alloc (.cells #[] e),?_,⟨rfl,.inr ⟨w.heap.size,#[],rfl,heap_alloc_new w _,Nat.le_refl _,by simp only[maxLen];omega,by simp,by simp⟩⟩,Upd.alloc _ _ _⟩
 unfold bldS;rw[hr]
theorem K_rq{z:Value}(hz:z.cells= #[z])(n:Nat):(Builtin.zeroCells z.cells n)=(List.replicate n z).toArray:=by
 rw[hz]
 apply Array.ext (by simp[Builtin.zeroCells])
 intro k h1 h2
 simp[Builtin.zeroCells,Nat.mod_one]
theorem K_1lf{P:Program}{t tn e:TypeId}{z:Value}{bytes:Nat}{kn:IntKind}(T:OneSlice P t e z bytes)(h1:z.oneCell'=true)(htn:P.underlying tn=some (.int kn)){w:World}{s:Sl}{xs:List Value}(h:OwnS e w s xs)(h1x:∀ v∈xs,v.oneCell'=true){n:Nat}(hn:0<n)(hb:(s.len+n)*bytes≤1099511627776):
  ∃ s' w',apd P t tn (.slice s.a s.len s.cap) (.int .i64 (n:Int)) w=some (s',w')∧s'.len=s.len+n∧OwnS e w' s' (xs ++ List.replicate n z)∧Upd (fun k=>s.blk=some k) w w'∧(s'.blk=s.blk∨s'.blk=some w.heap.size):=by
 obtain⟨i,hi,hsz,hz,hby⟩:=T.info
 have hp:=T.pos
 have hbig:(s.len+n)≤(s.len+n)*bytes:=Nat.le_mul_of_pos_right _ hp
 have hbn:n*bytes≤(s.len+n)*bytes:=Nat.mul_le_mul_right _ (by omega)
 have hxl:s.len=xs.length:=h.len
 by_cases hroom:s.len+n≤s.cap
 ·
  obtain⟨g,cs,a1,a2,a3,a4,a5⟩:∃ g cs,s.a=some ⟨g,0,none⟩∧Bk e w g cs∧s.cap≤maxLen∧cs.length=s.cap∧cs.take s.len=xs:=by
   rcases h.2 with ⟨e1,e2,e3⟩ | ⟨g,cs,e1,e2,e3,e4,e5,e6⟩
   ·omega
   ·exact⟨g,cs.toList,e1,by unfold Bk;simpa using e2,e4,by simpa using e5,by simpa using e6⟩
  obtain⟨w',s1,s2,s3⟩:=Bk.stL (List.replicate n z) s.len 0 w cs a2 (by simp;omega) (fun v hv=>by rw[(List.mem_replicate.1 hv).2];exact h1)
  rw[Nat.add_zero]at s2
  have hst:=K_16q (P:=P) _ _ _ _ s1
  have hw:IntKind.i64.wrap (n:Int)=n:=by rw[IntKind.wrap_i64];omega
  have hneg:¬((n:Int)<0):=by omega
  have hns:¬(n*i.size=0):=Nat.mul_ne_zero (by omega) (by omega)
  have h48i:¬(281474976710656<(n:Int)*(i.bytes:Int)):=by rw[←Int.natCast_mul,hby];omega
  have hzl:(Builtin.zeroCells z.cells n)=(List.replicate n z).toArray:=K_rq T.z0 n
  refine⟨⟨some ⟨g,0,none⟩,s.len+n,s.cap⟩,w',?_,rfl,?_,s3.mono fun k _ hk=>by rw[hk];simp[Sl.blk,a1],.inl (by simp[Sl.blk,a1])⟩
  ·unfold apd
   rw[a1]
   simp[Builtin.append_,run_underlying T.ht,run_underlying htn,sizeOf,typeInfo,zeroValue,hi,hz,asInt,asIntOf,hw,hneg,hns,h48i,hroom,hzl,hsz,hst,(show ¬n=0 by omega)]
  ·have:=OwnS.of_bk s2 hroom a3 (by rw[K_z (by simp;omega)];exact a4)
   have e2:(seg cs s.len (List.replicate n z)).take (s.len+n)=xs ++ List.replicate n z:=by
    unfold seg
    rw[List.take_left' (by rw[List.length_append,List.length_take,List.length_replicate];omega),a5]
   rw[e2]at this
   exact this
 ·have hold:(Builtin.firstCells i.size s.len (.slice s.a s.len s.cap)).run P w.drew= .ok xs.toArray w.drew:=by
   cases ha:s.a with
   | none=>
    rcases h.2 with ⟨e1,e2,e3⟩ | ⟨g,cs,e1,_⟩
    ·have:xs=[]:=List.eq_nil_of_length_eq_zero (by omega)
     rw[this];simp[Builtin.firstCells]
    ·rw[ha]at e1;cases e1
   | some p=>
    have hsrc:=(h.drew).src h1x
    rcases hsrc.rd with ⟨e1,_⟩ | ⟨q,e1,e2⟩
    ·rw[ha]at e1;cases e1
    ·rw[ha]at e1
     obtain rfl:=Option.some.inj e1
     exact run_firstCells_some (P:=P) w.drew i.size s.len p s.len s.cap xs (by rw[hsz,hxl,Nat.mul_one]) e2
  have hw:IntKind.i64.wrap (n:Int)=n:=by rw[IntKind.wrap_i64];omega
  have hneg:¬((n:Int)<0):=by omega
  have hns:¬(n*i.size=0):=Nat.mul_ne_zero (by omega) (by omega)
  have h48i:¬(281474976710656<(n:Int)*(i.bytes:Int)):=by rw[←Int.natCast_mul,hby];omega
  have hfit:Builtin.nextslicecap (s.len+n) s.cap*i.bytes≤281474976710656:=growslice_fits (by omega) (by rw[hby];omega)
  have h48':¬(281474976710656<Builtin.nextslicecap (s.len+n) s.cap*i.bytes):=by omega
  have h63':¬(9223372036854775807<((s.len:Int)+(n:Int))):=by omega
  have hr:(Builtin.append_ #[t,tn] 0 #[.slice s.a s.len s.cap,.int .i64 n]).run P w =
    .ok (.slice (some ⟨w.heap.size,0,none⟩) (s.len+n) (grownCap w (s.len+n) s.cap e)) (w.drew.alloc (.cells (xs.toArray ++ Builtin.zeroCells z.cells n ++ Builtin.zeroCells z.cells (grownCap w (s.len+n) s.cap e - (s.len+n))) e)):=by
   simp[Builtin.append_,run_underlying T.ht,run_underlying htn,sizeOf,typeInfo,zeroValue,hi,hz,asInt,asIntOf,hw,hroom,hneg,hns,h63',h48',h48i,Question.forced,hold,newRow,grownCap]
  have hgc:=grownCap_le_maxLen w (s.len+n) s.cap e (by simp only[maxLen];omega)
  have hgl:=grownCap_ge w (s.len+n) s.cap e
  have hzl:∀ m,(Builtin.zeroCells z.cells m)=(List.replicate m z).toArray:=K_rq T.z0
  rw[hzl,hzl]at hr
  refine⟨⟨some ⟨w.heap.size,0,none⟩,s.len+n,grownCap w (s.len+n) s.cap e⟩,_,by unfold apd;rw[hr],rfl,⟨by show _=s.len+n;rw[List.length_append,List.length_replicate];omega,.inr ⟨w.heap.size,_,rfl,heap_alloc_new w.drew _,hgl,hgc,?_,?_⟩⟩,((Upd.refl _ w).drew.trans' (Upd.alloc none_ _ _) fun _ _ e=>e.elim),.inr rfl⟩
  ·simp;omega
  ·simp only[Array.toList_append]
   rw[List.take_left' (by simp;omega)]
abbrev BSrc(w:World)(s:Sl)(l:List F):Prop:=Fw.Src w s (fb l)
theorem K_rn{e:TypeId}{w:World}{s:Sl}{xs:List Value}(h:OwnS e w s xs):∀ q,s.a=some q→q.block<w.heap.size:=fun q hq=>h.lt (k:=q.block) (by simp[Sl.blk,hq])
theorem K_11y{w:World}{s:Sl}{vs:List Value}(h:Fw.Src w s vs){lo:Nat}(h1:lo≤vs.length):Fw.Src w ⟨sla s.a lo s.cap 1,s.len - lo,s.cap - lo⟩ (vs.drop lo):=by
 have hl:=h.len
 have hc:=h.cap
 refine⟨by simp;omega,by show s.len - lo≤s.cap - lo;omega,?_,fun v hv=>h.one v (List.mem_of_mem_drop hv)⟩
 rcases h.rd with ⟨a1,a2,a3⟩ | ⟨p,a1,a2⟩
 ·left
  refine⟨by simp[sla,a1],by show s.cap - lo=0;omega,by rw[a3];simp⟩
 ·right
  by_cases hm:s.cap=lo
  ·refine⟨p,by simp[sla,a1,hm],fun i v hv=>?_⟩
   have:vs.drop lo=[]:=List.drop_eq_nil_of_le (by omega)
   rw[this]at hv;simp at hv
  ·refine⟨p.add lo,by simp[sla,a1,hm],fun i v hv=>?_⟩
   have e:(p.add lo).add i=p.add (lo+i):=by
    unfold Addr.add
    by_cases h1:lo=0 <;> by_cases h2:i=0 <;> simp[h1,h2,Nat.add_assoc]
   rw[e]
   rw[List.getElem?_drop]at hv
   exact a2 _ _ hv
theorem K_1i4{a:Option Addr}{lo m:Nat}{q:Addr}(h:sla a lo m 1=some q):∃ p,a=some p∧q.block=p.block:=by
 unfold sla at h
 split at h
 ·exact⟨q,h,rfl⟩
 ·cases ha:a with
  | none=>rw[ha]at h;simp at h
  | some p=>
   rw[ha]at h
   simp only[Option.map_some,Option.some.injEq]at h
   refine⟨p,rfl,?_⟩
   rw[←h];unfold Addr.add;split <;> rfl
theorem K_of(K:Nat){w:World}{b:Sl}{l:List F}(hs:BSrc w b l)(hl:l.length≤1099511627776):
  ∃ s' w',K_i b w=some ((s',()),w')∧OwnS 5 w' s' (fb l)∧Upd none_ w w'∧Fresh w.heap.size s':=by
 have hbl:b.len=l.length:=by rw[hs.len,K_1]
 unfold K_i
 cases ha:b.a with
 | none=>
  have h0:l=[]:=by
   rcases hs.rd with ⟨e1,e2,e3⟩ | ⟨q,e1,e2⟩
   ·have:=congrArg List.length e3
    rw[K_1]at this
    exact List.eq_nil_of_length_eq_zero this
   ·rw[ha]at e1;cases e1
  exact⟨⟨none,0,0⟩,w,by rw[if_pos (by rfl)],by rw[h0];exact OwnS.nil _ _,Upd.refl _ _,fun k hk=>by cases hk⟩
 | some p=>
  obtain⟨w1,a1,a2,a3⟩:=K_n1 sliceB w
  obtain⟨s2,w2,b1,b2,b3,b4,b5⟩:=K_1e sliceB a2 (hs.upd0 a3) (by show (0+b.len)*1≤_;omega)
  refine⟨s2,w2,?_,b3,a3.trans' b4 fun j hj e=>by have e2:w.heap.size=j:=Option.some.inj e;omega,fun j hj=>?_⟩
  ·rw[if_neg (by simp),a1,bnd_ok,←ha]
   dsimp only
   rw[b1,bnd_ok]
  ·rcases b5 with e | e
   ·rw[e]at hj;have e2:w.heap.size=j:=Option.some.inj hj;omega
   ·rw[e]at hj;have e2:w1.heap.size=j:=Option.some.inj hj;have:=a3.size;omega
end Go.Sh

namespace Go.Sh
open Go.Fw Go.Gf Go.RowKit Go.Proofs.Tryd
def onG:Nat→List F→List F→List F
 | _,[],N=>N
 | off,m :: ms,N=>onG (off+1) ms (N.set off (N.getD off 0+m))
theorem K_14i:∀ (ms:List F) (off:Nat) (N:List F),(onG off ms N).length=N.length
 | [],_,_=>rfl
 | m :: ms,off,N=>(K_14i ms (off+1) (N.set off (N.getD off 0+m))).trans (List.length_set ..)
theorem K_1g4:∀ (ms:List F) (off:Nat) (N:List F),off+ms.length≤N.length→onG off ms N=N.take off ++ addHead ms (N.drop off)
 | [],off,N,_=>by
  have:addHead [] (N.drop off)=N.drop off:=by cases N.drop off <;> rfl
  rw[this,List.take_append_drop];rfl
 | m :: ms,off,N,h=>by
  simp only[List.length_cons]at h
  have hi:off<N.length:=by omega
  show onG (off+1) ms (N.set off _)=_
  rw[K_1g4 ms (off+1) _ (by rw[List.length_set];omega),List.drop_eq_getElem_cons hi]
  show _=N.take off ++ (m+N[off]) :: addHead ms (N.drop (off+1))
  have hg:N.getD off 0=N[off]:=by rw[J_gd,J_ge hi];rfl
  rw[hg,F.add_comm m,List.drop_set_of_lt (by omega),List.take_succ_eq_append_getElem (by simpa using hi)]
  simp[List.take_set_of_le]
def stepG(g:List F)(a:F):List F:=onG 1 (g.map (· *a)) (g ++ [0])
theorem K_1gl:stepG (stepG (stepG (stepG [1] (tj 0)) (tj 1)) (tj 2)) (tj 3)=genL:=by decide+kernel
theorem K_ah{e:TypeId}{w:World}{s:Sl}{l:List F}(h:OwnS e w s (fb l)){i:Nat}(hi:i<l.length):∃ p,s.a=some p∧ldI .u8 (p.add i) w=some (bF (l.getD i 0)):=by
 obtain⟨p,p1,p2⟩:=K_1a (h.src K_f) hi
 refine⟨p,p1,?_⟩
 rw[p2,J_gd,J_ge hi];rfl
theorem K_eu{e:TypeId}{w:World}{s:Sl}{l:List F}(h:OwnS e w s (fb l)){i:Nat}(hi:i<l.length)(v:F):
  ∃ p w',s.a=some p∧stC (p.add i) (.int .u8 (bF v)) w=some w'∧OwnS e w' s (fb (l.set i v))∧Upd (fun k=>s.blk=some k) w w':=by
 obtain⟨p,w',a,b,c,d⟩:=h.st (i:=i) (by rw[h.len,K_1];exact hi) (.int .u8 (bF v))
 rw[K_147]at c
 exact⟨p,w',a,b,c,d⟩
theorem K_1i1{K:Nat}(hK:300≤K){b nx gs:Sl}{j:Nat}{a14:Int}{G:List F}(hG:G.length<4611686018427387904)(hne:∀ q,gs.a=some q→G≠[]→nx.blk≠some q.block):
  ∀ (d i m:Nat) (w:World) (N:List F),i+d=G.length→d<m→N.length=G.length+1→OwnS 5 w nx (fb N)→BSrc w gs G→
   ∃ w',K_3s K m b (j:Int) nx a14 gs ((G.length:Nat):Int) (i:Int) w=some ((),w')∧OwnS 5 w' nx (fb (onG (i+1) ((G.drop i).map (· *tj j)) N))∧Upd (fun k=>nx.blk=some k) w w':=by
 intro d
 induction d with
 | zero=>
  intro i m w N hi hm hN ho hs
  obtain⟨m,rfl⟩:∃ q,m=q+1:=⟨m - 1,by omega⟩
  refine⟨w,?_,by rw[List.drop_eq_nil_of_le (by omega)];exact ho,Upd.refl _ _⟩
  show K_7r K (K_3s K m) b (j:Int) nx a14 gs ((G.length:Nat):Int) (i:Int) w=_
  unfold K_7r
  rw[if_neg (by simp only[decide_eq_true_eq];omega)]
 | succ d ih=>
  intro i m w N hi hm hN ho hs
  obtain⟨m,rfl⟩:∃ q,m=q+1:=⟨m - 1,by omega⟩
  have hgl:gs.len=G.length:=by rw[hs.len,K_1]
  have hnl:nx.len=N.length:=by rw[ho.len,K_1]
  obtain⟨p,p1,p2⟩:=K_1a hs (i:=i) (by omega)
  have e3:IntKind.i64.wrap ((i:Int)+1)=((i+1:Nat):Int):=by rw[w64 (by omega) (by omega)];rfl
  have c1:(0:Int)≤(i:Int)∧(i:Int)<((gs.len:Nat):Int):=by omega
  have c2:(0:Int)≤((i+1:Nat):Int)∧((i+1:Nat):Int)<((nx.len:Nat):Int):=by omega
  have ud:=(Upd.refl none_ w).drew
  obtain⟨q,q1,q2⟩:=K_ah (ho.upd0 ud) (i:=i+1) (by omega)
  obtain⟨q',w1,s1,s2,s3,s4⟩:=K_eu (ho.upd0 ud) (i:=i+1) (by omega) (N.getD (i+1) 0+G[i]'(by omega)*tj j)
  obtain rfl:q'=q:=Option.some.inj (s1.symm.trans q1)
  have u1:Upd (fun k=>nx.blk=some k) w w1:=s4.predrew
  obtain⟨w2,k1,k2,k3⟩:=ih (i+1) m w1 _ (by omega) (by omega) (by rw[List.length_set];exact hN) s3 (K_59 hs u1 fun q hq hne'=>hne q hq hne')
  refine⟨w2,?_,?_,u1.trans' k3 fun _ _ e=>e⟩
  ·show K_7r K (K_3s K m) b (j:Int) nx a14 gs ((G.length:Nat):Int) (i:Int) w=_
   unfold K_7r
   rw[if_pos (decide_eq_true (show (i:Int)<((G.length:Nat):Int) by omega)),p1,J_bs,if_pos c1,J_tn,Nat.mul_one,p2,J_bs,q1,J_bs,e3,if_pos c2,J_tn,Nat.mul_one,q2,J_bs,K_u1 hK,J_bs]
   dsimp only
   rw[tm hK,J_bs,J_bs,if_pos c2]
   dsimp only
   rw[addF,s2,J_bs,k1]
  ·rw[List.drop_eq_getElem_cons (show i<G.length by omega)]
   exact k2
theorem K_1iv{K:Nat}(hK:300≤K){b rs gs:Sl}{i9:Nat}{c:F}{a46 a47:Int}{G:List F}(hbig:i9+G.length<4611686018427387904)(hne:∀ q,gs.a=some q→G≠[]→rs.blk≠some q.block):
  ∀ (d i m:Nat) (w:World) (N:List F),i+d=G.length→d<m→i9+G.length≤N.length→OwnS 5 w rs (fb N)→BSrc w gs G→
   ∃ w',K_3l K m b gs rs (i9:Int) (bF c) a46 a47 gs ((G.length:Nat):Int) (i:Int) w=some ((),w')∧OwnS 5 w' rs (fb (onG (i9+i) ((G.drop i).map (c* ·)) N))∧Upd (fun k=>rs.blk=some k) w w':=by
 intro d
 induction d with
 | zero=>
  intro i m w N hi hm hN ho hs
  obtain⟨m,rfl⟩:∃ q,m=q+1:=⟨m - 1,by omega⟩
  refine⟨w,?_,by rw[List.drop_eq_nil_of_le (by omega)];exact ho,Upd.refl _ _⟩
  show K_7u K (K_3l K m) b gs rs (i9:Int) (bF c) a46 a47 gs ((G.length:Nat):Int) (i:Int) w=_
  unfold K_7u
  rw[if_neg (by simp only[decide_eq_true_eq];omega)]
 | succ d ih=>
  intro i m w N hi hm hN ho hs
  obtain⟨m,rfl⟩:∃ q,m=q+1:=⟨m - 1,by omega⟩
  have hgl:gs.len=G.length:=by rw[hs.len,K_1]
  have hnl:rs.len=N.length:=by rw[ho.len,K_1]
  obtain⟨p,p1,p2⟩:=K_1a hs (i:=i) (by omega)
  have e3:IntKind.i64.wrap ((i:Int)+1)=((i+1:Nat):Int):=by rw[w64 (by omega) (by omega)];rfl
  have e4:IntKind.i64.wrap ((i9:Int)+(i:Int))=((i9+i:Nat):Int):=by rw[w64 (by omega) (by omega)];rfl
  have c1:(0:Int)≤(i:Int)∧(i:Int)<((gs.len:Nat):Int):=by omega
  have c2:(0:Int)≤((i9+i:Nat):Int)∧((i9+i:Nat):Int)<((rs.len:Nat):Int):=by omega
  have ud:=(Upd.refl none_ w).drew
  obtain⟨q,q1,q2⟩:=K_ah (ho.upd0 ud) (i:=i9+i) (by omega)
  obtain⟨q',w1,s1,s2,s3,s4⟩:=K_eu (ho.upd0 ud) (i:=i9+i) (by omega) (N.getD (i9+i) 0+c*G[i]'(by omega))
  obtain rfl:q'=q:=Option.some.inj (s1.symm.trans q1)
  have u1:Upd (fun k=>rs.blk=some k) w w1:=s4.predrew
  obtain⟨w2,k1,k2,k3⟩:=ih (i+1) m w1 _ (by omega) (by omega) (by rw[List.length_set];exact hN) s3 (K_59 hs u1 fun q hq hne'=>hne q hq hne')
  refine⟨w2,?_,?_,u1.trans' k3 fun _ _ e=>e⟩
  ·show K_7u K (K_3l K m) b gs rs (i9:Int) (bF c) a46 a47 gs ((G.length:Nat):Int) (i:Int) w=_
   unfold K_7u
   rw[if_pos (decide_eq_true (show (i:Int)<((G.length:Nat):Int) by omega)),p1,J_bs,if_pos c1,J_tn,Nat.mul_one,p2,J_bs,q1,J_bs,e4,if_pos c2,J_tn,Nat.mul_one,q2,J_bs,tm hK,J_bs,J_bs,if_pos c2]
   dsimp only
   rw[addF,s2,J_bs,e3,k1]
  ·rw[List.drop_eq_getElem_cons (show i<G.length by omega)]
   exact k2
theorem K_mx{K:Nat}(hK:18446744073709551616≤K){b gs:Sl}{G:List F}(hG:G.length≤16){j m:Nat}(hj:j<4){w:World}(ho:OwnS 5 w gs (fb G)):
  ∃ s' w',K_1y K (m+1) b gs (j:Int) w=K_1y K m b s' ((j+1:Nat):Int) w'∧OwnS 5 w' s' (fb (stepG G (tj j)))∧Upd none_ w w'∧Fresh w.heap.size s':=by
 have hgl:gs.len=G.length:=by rw[ho.len,K_1]
 obtain⟨s1,w1,a1,a2,a3,a4⟩:=K_of K (ho.src K_f) (by omega)
 obtain⟨w2,b1,b2,b3,b4⟩:=K_8u sliceB (.int .u8 (bF 0)) rfl w1
 have b1:bldS prog 23 1 #[(0,(.int .u8 0))] w1=some (⟨some ⟨w1.heap.size,0,none⟩,1,1⟩,w2):=b1
 have b2:OwnS 5 w2 ⟨some ⟨w1.heap.size,0,none⟩,1,1⟩ (fb [0]):=b2
 have h1l:=a2.len
 rw[K_1]at h1l
 obtain⟨s3,w3,c1,c2,c3,c4,c5⟩:=K_1e sliceB (a2.upd0 b3) (b2.src K_f) (by show (s1.len+1)*1≤_;omega)
 rw[←K_4s]at c3
 have q1:=a3.size
 have q2:=b3.size
 have hf3:∀ k,s3.blk=some k→w.heap.size≤k:=fun k hk=>by
  rcases c5 with e | e
  ·rw[e]at hk;exact a4 k hk
  ·rw[e]at hk;have e2:w2.heap.size=k:=Option.some.inj hk;omega
 have u3:Upd none_ w w3:=(a3.and0 b3).trans' c4 fun k hk e=>by have:=a4 k e;omega
 have hgb:∀ q,gs.a=some q→q.block<w.heap.size:=K_rn ho
 obtain⟨w4,d1,d2,d3⟩:=K_1i1 (K:=K) (by omega) (b:=b) (a14:=(j:Int)) (j:=j) (by omega) (fun q hq _ e=>by have:=hf3 _ e;have:=hgb q hq;omega) G.length 0 K w3 _ (by omega) (by omega) (by rw[List.length_append];rfl) c3 ((ho.upd0 u3).src K_f)
 have d1:K_3s K K b (j:Int) s3 (j:Int) gs ((gs.len:Nat):Int) 0 w3=some ((),w4):=by rw[hgl];exact d1
 have e3:IntKind.i64.wrap ((j:Int)+1)=((j+1:Nat):Int):=by rw[w64 (by omega) (by omega)];rfl
 refine⟨s3,w4,?_,d2,u3.trans' d3 fun k hk e=>by have:=hf3 k e;omega,hf3⟩
 show K_7l K (K_1y K m) b gs (j:Int) w=_
 unfold K_7l
 rw[if_pos (decide_eq_true (show (j:Int)<4 by omega)),a1,bnd_ok,b1,bnd_ok]
 dsimp only
 rw[c1,bnd_ok,d1,bnd_ok,e3]
theorem K_1ik{K:Nat}(hK:18446744073709551616≤K){b rs gs:Sl}{n:Nat}(hn:n≤1099511627776)(hne:∀ q,gs.a=some q→rs.blk≠some q.block):
  ∀ (d i m:Nat) (w:World) (R:List F),i+d=n→d<m→R.length=n+4→OwnS 5 w rs (fb R)→BSrc w gs genL→
   ∃ R' w',K_3v K m b gs rs ((n:Nat):Int) (i:Int) w=some ((),w')∧OwnS 5 w' rs (fb R')∧R'.length=n+4∧R'.drop n=divR d (R.drop i)∧Upd (fun k=>rs.blk=some k) w w':=by
 intro d
 induction d with
 | zero=>
  intro i m w R hi hm hR ho hs
  obtain⟨m,rfl⟩:∃ q,m=q+1:=⟨m - 1,by omega⟩
  obtain rfl:i=n:=by omega
  refine⟨R,w,?_,ho,hR,by cases R.drop i <;> rfl,Upd.refl _ _⟩
  show K_7g K (K_3v K m) b gs rs ((i:Nat):Int) (i:Int) w=_
  unfold K_7g
  rw[if_neg (by simp only[decide_eq_true_eq];omega)]
 | succ d ih=>
  intro i m w R hi hm hR ho hs
  obtain⟨m,rfl⟩:∃ q,m=q+1:=⟨m - 1,by omega⟩
  have hrl:rs.len=R.length:=by rw[ho.len,K_1]
  have hgl:gs.len=genL.length:=by rw[hs.len,K_1]
  have hg5:genL.length=5:=by rw[K_163,List.length_cons,K_um]
  obtain⟨p,p1,p2⟩:=K_ah ho (i:=i) (by omega)
  have c1:(0:Int)≤(i:Int)∧(i:Int)<((rs.len:Nat):Int):=by omega
  have e3:IntKind.i64.wrap ((i:Int)+1)=((i+1:Nat):Int):=by rw[w64 (by omega) (by omega)];rfl
  obtain⟨w1,s1,s2,s3⟩:=K_1iv (K:=K) (by omega) (b:=b) (i9:=i) (c:=R.getD i 0) (a46:=((n:Nat):Int)) (a47:=(i:Int)) (G:=genL) (by omega) (fun q hq _=>hne q hq) genL.length 0 K w R (by omega) (by omega) (by omega) ho hs
  have s1:K_3l K K b gs rs (i:Int) (bF (R.getD i 0)) ((n:Nat):Int) (i:Int) gs ((gs.len:Nat):Int) 0 w=some ((),w1):=by rw[hgl];exact s1
  rw[Nat.add_zero,List.drop_zero]at s2
  obtain⟨R',w2,k1,k2,k3,k4,k5⟩:=ih (i+1) m w1 _ (by omega) (by omega) (by rw[K_14i];exact hR) s2 (K_59 hs s3 fun q hq _=>hne q hq)
  refine⟨R',w2,?_,k2,k3,?_,s3.trans' k5 fun _ _ e=>e⟩
  ·show K_7g K (K_3v K m) b gs rs ((n:Nat):Int) (i:Int) w=_
   unfold K_7g
   rw[if_pos (decide_eq_true (show (i:Int)<((n:Nat):Int) by omega)),p1,J_bs,if_pos c1,J_tn,Nat.mul_one,p2,J_bs,s1,bnd_ok,e3,k1]
  ·rw[k4,K_1g4 _ _ _ (by rw[List.length_map];omega)]
   have h1:R.drop i=R.getD i 0 :: R.drop (i+1):=by
    rw[List.drop_eq_getElem_cons (show i<R.length by omega)]
    congr 1
    rw[J_gd,J_ge (by omega)];rfl
   rw[h1,K_163,List.map_cons]
   have h2:(R.take i ++ addHead (R.getD i 0*1 :: genT.map (R.getD i 0* ·)) (R.getD i 0 :: R.drop (i+1))).drop (i+1)=addHead (genT.map (R.getD i 0* ·)) (R.drop (i+1)):=by
    show (R.take i ++ (_ :: addHead (genT.map (R.getD i 0* ·)) (R.drop (i+1)))).drop (i+1)=_
    rw[List.drop_append,List.drop_eq_nil_of_le (by rw[List.length_take];omega),List.length_take,Nat.min_eq_left (by omega),show i+1 - i=1 by omega]
    rfl
   rw[h2]
   rfl
theorem K_1bw{K:Nat}(hK:18446744073709551616≤K){w:World}{b:Sl}{l:List F}(hs:BSrc w b l)(hl:l.length≤1073741824):
  ∃ s' w',K_89 K b w=some ((s',()),w')∧OwnS 5 w' s' (fb (codedP l))∧Upd none_ w w'∧Fresh w.heap.size s':=by
 have hbl:b.len=l.length:=by rw[hs.len,K_1]
 obtain⟨w0,a1,a2,a3,a4⟩:=K_8u sliceB (.int .u8 (bF 1)) rfl w
 have a1:bldS prog 23 1 #[(0,(.int .u8 1))] w=some (⟨some ⟨w.heap.size,0,none⟩,1,1⟩,w0):=a1
 have a2:OwnS 5 w0 ⟨some ⟨w.heap.size,0,none⟩,1,1⟩ (fb [1]):=a2
 obtain⟨k,hk⟩:∃ k,K=k+5:=⟨K - 5,by omega⟩
 obtain⟨s1,w1,b1,b2,b3,b4⟩:=K_mx hK (b:=b) (G:=[1]) (by decide) (j:=0) (m:=k+4) (by omega) a2
 obtain⟨s2,w2,c1,c2,c3,c4⟩:=K_mx hK (b:=b) (G:=stepG [1] (tj 0)) (by decide) (j:=1) (m:=k+3) (by omega) b2
 obtain⟨s3,w3,d1,d2,d3,d4⟩:=K_mx hK (b:=b) (G:=stepG (stepG [1] (tj 0)) (tj 1)) (by decide) (j:=2) (m:=k+2) (by omega) c2
 obtain⟨s4,w4,e1,e2,e3,e4⟩:=K_mx hK (b:=b) (G:=stepG (stepG (stepG [1] (tj 0)) (tj 1)) (tj 2)) (by decide) (j:=3) (m:=k+1) (by omega) d2
 rw[K_1gl]at e2
 have hl0:K_1y K K b ⟨some ⟨w.heap.size,0,none⟩,1,1⟩ 0 w0=some ((s4,()),w4):=by
  have gen:∀ n,n=k+5→K_1y K n b ⟨some ⟨w.heap.size,0,none⟩,1,1⟩ ((0:Nat):Int) w0=some ((s4,()),w4):=fun n hn=>by
   rw[hn,b1,c1,d1,e1]
   show K_7l K (K_1y K k) b s4 ((4:Nat):Int) w4=_
   unfold K_7l
   rw[if_neg (by decide)]
  exact gen K hk
 have u4:Upd none_ w w4:=(((a3.and0 b3).and0 c3).and0 d3).and0 e3
 obtain⟨s5,w5,f1,f2,f3,f4⟩:=K_of K (hs.upd0 u4) (by omega)
 have h5l:=f2.len
 rw[K_1]at h5l
 obtain⟨s6,w6,g1,g2,g3,g4,g5⟩:=K_1lf sliceB rfl (tn:=3) (kn:=.i64) (by kernel_rfl) f2 (K_k _) (n:=4) (by omega) (by omega)
 have g1:apd prog 23 3 (.slice s5.a s5.len s5.cap) (.int .i64 4) w5=some (s6,w6):=g1
 have ez:List.replicate 4 (Value.int .u8 0)=fb [0,0,0,0]:=rfl
 rw[ez,←K_4s]at g3
 have q4:=u4.size
 have q5:=f3.size
 have hs4:∀ q,s4.a=some q→q.block<w4.heap.size:=K_rn e2
 have hf6:∀ j,s6.blk=some j→w4.heap.size≤j:=fun j hj=>by
  rcases g5 with e | e
  ·rw[e]at hj;exact f4 j hj
  ·rw[e]at hj;have e2:w5.heap.size=j:=Option.some.inj hj;omega
 have u46:Upd none_ w4 w6:=f3.trans' g4 fun j hj e=>by have:=f4 j e;omega
 obtain⟨R,w7,h1,h2,h3,h4,h5⟩:=K_1ik hK (b:=b) (rs:=s6) (gs:=s4) (n:=l.length) (by omega) (fun q hq e=>by have:=hf6 _ e;have:=hs4 q hq;omega) l.length 0 K w6 _ (by omega) (by omega) (by rw[List.length_append];rfl) g3 ((e2.upd0 u46).src K_f)
 have h1:K_3v K K b s4 s6 ((b.len:Nat):Int) 0 w6=some ((),w7):=by rw[hbl];exact h1
 have u47:Upd none_ w4 w7:=u46.trans' h5 fun j hj e=>by have:=hf6 j e;omega
 have u7:Upd none_ w w7.drew:=(u4.and0 u47).drew
 obtain⟨s8,w8,i1,i2,i3,i4⟩:=K_of K (hs.upd0 u7) (by omega)
 have h8l:=i2.len
 rw[K_1]at h8l
 have h6l:s6.len=l.length+4:=by rw[h2.len,K_1,h3]
 have hsub:=Go.Fw.OwnS.src (((h2.upd0 (Upd.refl none_ w7).drew).upd0 i3)) (K_k _)
 have hd:=K_11y hsub (lo:=l.length) (by rw[K_1];omega)
 rw[K_17c]at hd
 obtain⟨s9,w9,j1,j2,j3,j4,j5⟩:=K_1e sliceB i2 hd (by show (s8.len+(s6.len - l.length))*1≤_;omega)
 rw[←K_4s,h4,List.drop_zero]at j3
 have q7:=u7.size
 have q8:=i3.size
 have cc:(0:Int)≤((l.length:Nat):Int)∧((l.length:Nat):Int)≤((s6.len:Nat):Int):=by omega
 refine⟨s9,w9,?_,j3,(u7.and0 i3).trans' j4 fun j hj e=>by have:=i4 j e;omega,fun j hj=>?_⟩
 ·unfold K_89
  rw[a1,bnd_ok,hl0,bnd_ok,f1,bnd_ok,g1,bnd_ok,h1,bnd_ok,hbl,if_pos cc,i1,bnd_ok,J_tn]
  dsimp only
  rw[j1,bnd_ok]
 ·rcases j5 with e | e
  ·rw[e]at hj;have:=i4 j hj;omega
  ·rw[e]at hj;have e2:w8.heap.size=j:=Option.some.inj hj;omega
end Go.Sh

namespace Go.Sh
open Go.Fw Go.Gf Go.RowKit Go.Proofs.Tryd
abbrev timesV:Value:=.func (.func 61) #[] #[]
theorem K_hb{β:Type}{K:Nat}(hK:300≤K)(a b:F)(w:World)(k:Value→World→Option β):
  dyn (tab (K_s K)) timesV [.int .u8 (bF a),.int .u8 (bF b)] w k=k (.int .u8 (bF (a*b))) w:=by
 have e:∀ x y:Int,dyn (tab (K_s K)) timesV [.int .u8 x,.int .u8 y] w k=(K_l K x y).bind fun r=>k (.int .u8 r.1) w:=fun _ _=>rfl
 rw[e,tm hK,J_bs]
theorem K_a{β:Type}(v:Value)(o:Option β):sameK v v o=o:=by unfold sameK;simp
theorem K_n2(κ:IntKind)(n:Int):asI κ (.int κ n)=some n:=by cases κ <;> rfl
theorem und170:prog.underlying 170=some (.array 4 5):=by kernel_rfl
theorem und5':prog.underlying 5=some (.int .u8):=by kernel_rfl
theorem built170:prog.built 170 []=some (fb [0,0,0,0]).toArray:=by kernel_rfl
theorem K_z6(l:List F):(fb l).toArray.toList.all (isI .u8)=true:=by
 rw[List.all_eq_true];intro v hv
 obtain⟨x,_,rfl⟩:=List.mem_map.1 hv
 rfl
theorem K_z5(l:List F):(fb l).toArray.toList.map numI=l.map bF:=by
 show ((l.map bF).map (Value.int .u8)).map numI=l.map bF
 rw[List.map_map];exact List.map_id _
theorem eq170{l m:List F}(hl:l.length=4)(hm:m.length=4):eqA prog 170 (fb l).toArray (fb m).toArray=some (decide (l=m)):=by
 unfold eqA
 rw[und170]
 dsimp only
 rw[und5']
 dsimp only
 rw[if_pos ⟨by rw[List.size_toArray,K_1,hl],by rw[List.size_toArray,K_1,hm],K_z6 l,K_z6 m⟩,K_z5,K_z5]
 rw[decide_eq_decide.2 K_18a]
theorem K_el(l:List F):sumsL l=[0,0,0,0]↔Right l:=by
 constructor
 ·intro h j hj
  simp only[sumsL,List.cons.injEq,and_true]at h
  obtain⟨h0,h1,h2,h3⟩:=h
  match j,hj with
  | 0,_=>exact h0
  | 1,_=>exact h1
  | 2,_=>exact h2
  | 3,_=>exact h3
 ·intro h
  have h0:sj l 0=0:=h 0 (by decide)
  have h1:sj l 1=0:=h 1 (by decide)
  have h2:sj l 2=0:=h 2 (by decide)
  have h3:sj l 3=0:=h 3 (by decide)
  simp[sumsL,h0,h1,h2,h3]
theorem cells4{K:Nat}(_:300≤K){w:World}{g:Nat}{e:TypeId}{c0 c1 c2 c3:F}(b:Bk e w g (fb [c0,c1,c2,c3])):ldI .u8 (⟨g,0,none⟩:Addr) w=some (bF c0)∧ldI .u8 (⟨g,1,none⟩:Addr) w=some (bF c1)∧ldI .u8 (⟨g,2,none⟩:Addr) w=some (bF c2)∧ldI .u8 (⟨g,3,none⟩:Addr) w=some (bF c3):=
 ⟨K_gf b (j:=0) (by simp),K_gf b (j:=1) (by simp),K_gf b (j:=2) (by simp),K_gf b (j:=3) (by simp)⟩
section
variable {K:Nat} (hK:300≤K) {w:World} {g:Nat} {e:TypeId} {c0 c1 c2 c3:F}
include hK
theorem K_1ml(b:Bk e w g (fb [c0,c1,c2,c3])):K_6e K ⟨g,0,none⟩ timesV w=some ((bF (c0*c2+c1*c1),()),w.drew):=by
 obtain⟨d0,d1,d2,d3⟩:=cells4 hK b.drew
 unfold K_6e
 simp only[Nat.mul_one,add_lit,Nat.zero_add,d0,d1,d2,J_bs,K_hb hK,K_n2,K_a,addF]
theorem K_1lr(b:Bk e w g (fb [c0,c1,c2,c3])):K_6n K ⟨g,0,none⟩ w=some ((decide (c0=0∨c1=0),()),w):=by
 obtain⟨d0,d1,d2,d3⟩:=cells4 hK b
 unfold K_6n
 simp only[Nat.mul_one,add_lit,Nat.zero_add,d0,d1,J_bs,K_kh]
 by_cases h:c0=0
 ·rw[if_pos h];simp[h]
 ·rw[if_neg h]
  have:(bF c1 == 0)=decide (c1=0):=by rw[Bool.eq_iff_iff,K_kh,decide_eq_true_eq]
  rw[this];simp[h]
theorem K_1lv(b:Bk e w g (fb [c0,c1,c2,c3]))(dl:F):K_4l K ⟨g,0,none⟩ timesV (bF dl) w=some ((bF ((c0*c3+c1*c2)*dl.inv),()),w.drew):=by
 obtain⟨d0,d1,d2,d3⟩:=cells4 hK b.drew
 unfold K_4l
 simp only[Nat.mul_one,add_lit,Nat.zero_add,d0,d1,d2,d3,J_bs,K_hb hK,K_n2,K_a,addF,K_z9 hK]
theorem K_1mg(b:Bk e w g (fb [c0,c1,c2,c3]))(dl:F):K_4w K ⟨g,0,none⟩ timesV (bF dl) w=some ((bF ((c1*c3+c2*c2)*dl.inv),()),w.drew):=by
 obtain⟨d0,d1,d2,d3⟩:=cells4 hK b.drew
 unfold K_4w
 simp only[Nat.mul_one,add_lit,Nat.zero_add,d0,d1,d2,d3,J_bs,K_hb hK,K_n2,K_a,addF,K_z9 hK]
end
theorem K_1mf{K:Nat}(hK:300≤K){b:Sl}{s5:Addr}(o t:F){n:Nat}(hn:n≤255):
  ∀ (d i m:Nat) (w:World) (ps:Sl) (P:List F),i+d=n→d<m→P.length≤i→OwnS 5 w ps (fb P)→
   ∃ s' w',K_1j K m b s5 ps timesV (bF o) (bF t) ((n:Nat):Int) (i:Int) w=some ((s',()),w')∧OwnS 5 w' s' (fb (P ++ rootsG o t d i))∧Upd (fun k=>ps.blk=some k) w w'∧∀ k,s'.blk=some k→ps.blk=some k∨w.heap.size≤k:=by
 intro d
 induction d with
 | zero=>
  intro i m w ps P hi hm hP ho
  obtain⟨m,rfl⟩:∃ q,m=q+1:=⟨m - 1,by omega⟩
  refine⟨ps,w,?_,by rw[show rootsG o t 0 i=[] from rfl,List.append_nil];exact ho,Upd.refl _ _,fun k hk=>.inl hk⟩
  show K_58 K (K_1j K m) b s5 ps timesV (bF o) (bF t) ((n:Nat):Int) (i:Int) w=_
  unfold K_58
  rw[if_neg (by simp only[decide_eq_true_eq];omega)]
 | succ d ih=>
  intro i m w ps P hi hm hP ho
  obtain⟨m,rfl⟩:∃ q,m=q+1:=⟨m - 1,by omega⟩
  have e3:IntKind.i64.wrap ((i:Int)+1)=((i+1:Nat):Int):=by rw[w64 (by omega) (by omega)];rfl
  have hun:K_1j K (m+1) b s5 ps timesV (bF o) (bF t) ((n:Nat):Int) (i:Int) w=K_58 K (K_1j K m) b s5 ps timesV (bF o) (bF t) ((n:Nat):Int) (i:Int) w:=rfl
  rw[hun]
  unfold K_58
  rw[if_pos (decide_eq_true (show (i:Int)<((n:Nat):Int) by omega)),K_u1 hK,J_bs]
  dsimp only
  rw[K_hb hK,K_n2,J_bs,K_hb hK,K_n2,J_bs,addF,addF,e3]
  by_cases h:tj i*tj i+o*tj i+t=0
  ·rw[if_pos (by rw[K_kh];exact h)]
   obtain⟨w1,a1,a2,a3,a4⟩:=K_8u sliceB (.int .u8 (bF (tj i))) rfl w
   have a2:OwnS 5 w1 ⟨some ⟨w.heap.size,0,none⟩,1,1⟩ (fb [tj i]):=a2
   have hpl:=ho.len
   rw[K_1]at hpl
   obtain⟨s2,w2,b1,b2,b3,b4,b5⟩:=K_1e sliceB (ho.upd0 a3) (a2.src K_f) (by show (ps.len+1)*1≤_;omega)
   rw[←K_4s]at b3
   have q1:=a3.size
   have hs2:∀ k,s2.blk=some k→ps.blk=some k∨w.heap.size≤k:=fun k hk=>by
    rcases b5 with e | e
    ·rw[e]at hk;exact .inl hk
    ·rw[e]at hk;have e2:w1.heap.size=k:=Option.some.inj hk;exact .inr (by omega)
   have u2:Upd (fun k=>ps.blk=some k) w w2:=(a3.mono (T:=fun k=>ps.blk=some k) fun _ _ e=>e.elim).trans' b4 fun _ _ e=>e
   have q2:=u2.size
   obtain⟨s3,w3,c1,c2,c3,c4⟩:=ih (i+1) m w2 s2 _ (by omega) (by omega) (by rw[List.length_append];show P.length+1≤_;omega) b3
   refine⟨s3,w3,by rw[a1,bnd_ok];dsimp only;rw[b1,bnd_ok,c1],?_,u2.trans' c3 (fun k hk e=>(hs2 k e).elim id fun e2=>absurd hk (by omega)),fun k hk=>(c4 k hk).elim (hs2 k) fun e=>.inr (by omega)⟩
   have er:rootsG o t (d+1) i=tj i :: rootsG o t d (i+1):=by show (if _ then _ else _)=_;rw[if_pos h]
   rw[er]
   rw[List.append_assoc]at c2
   exact c2
  ·rw[if_neg (by rw[K_kh];exact h)]
   obtain⟨s3,w3,c1,c2,c3,c4⟩:=ih (i+1) m w ps P (by omega) (by omega) (by omega) ho
   have er:rootsG o t (d+1) i=rootsG o t d (i+1):=by show (if _ then _ else _)=_;rw[if_neg h]
   exact⟨s3,w3,c1,by rw[er];exact c2,c3,c4⟩
def atI:Option Nat→Int
 | some k=>(k:Int)
 | none=>-1
theorem K_1ls{K:Nat}(hK:300≤K){s5:Addr}{ps out a113:Sl}(x v:F){a114 a115:Int}{n:Nat}(hn:n≤255)(hol:out.len=n):
  ∀ (d i m:Nat) (w:World) (a:Option Nat),i+d=n→d<m→
   K_24 K m s5 ps timesV out (bF x) (bF v) (atI a) a113 a114 a115 ((n:Nat):Int) (i:Int) w=some ((atI (atG n x d i a),()),w):=by
 intro d
 induction d with
 | zero=>
  intro i m w a hi hm
  obtain⟨m,rfl⟩:∃ q,m=q+1:=⟨m - 1,by omega⟩
  show K_54 K (K_24 K m) s5 ps timesV out (bF x) (bF v) (atI a) a113 a114 a115 ((n:Nat):Int) (i:Int) w=_
  unfold K_54
  rw[if_neg (by simp only[decide_eq_true_eq];omega)]
  rfl
 | succ d ih=>
  intro i m w a hi hm
  obtain⟨m,rfl⟩:∃ q,m=q+1:=⟨m - 1,by omega⟩
  have e3:IntKind.i64.wrap ((i:Int)+1)=((i+1:Nat):Int):=by rw[w64 (by omega) (by omega)];rfl
  have e1:IntKind.i64.wrap (((n:Nat):Int) - 1)=((n - 1:Nat):Int):=by rw[w64 (by omega) (by omega)];omega
  have e2:IntKind.i64.wrap (((n - 1:Nat):Int) - (i:Int))=((n - 1 - i:Nat):Int):=by rw[w64 (by omega) (by omega)];omega
  show K_54 K (K_24 K m) s5 ps timesV out (bF x) (bF v) (atI a) a113 a114 a115 ((n:Nat):Int) (i:Int) w=_
  unfold K_54
  rw[if_pos (decide_eq_true (show (i:Int)<((n:Nat):Int) by omega)),hol,e1,e2,K_u1 hK,J_bs,e3]
  dsimp only
  by_cases h:tj (n - 1 - i)=x
  ·rw[if_pos (by rw[beq_iff_eq,h])]
   have:=ih (i+1) m w (some i) (by omega) (by omega)
   rw[show atG n x (d+1) i a=atG n x d (i+1) (some i) from by show atG n x d (i+1) (if _ then _ else _)=_;rw[if_pos h]]
   exact this
  ·rw[if_neg (by rw[beq_iff_eq,bF_eq];exact h)]
   have:=ih (i+1) m w a (by omega) (by omega)
   rw[show atG n x (d+1) i a=atG n x d (i+1) a from by show atG n x d (i+1) (if _ then _ else _)=_;rw[if_neg h]]
   exact this
end Go.Sh

namespace Go.Sh
open Go.Fw Go.Gf Go.RowKit Go.Proofs.Tryd
theorem K_nc:∀ (l:List F) (i:Nat) (v:F),putX l i v=l.set i (l.getD i 0+v)
 | [],_,_=>rfl
 | c :: l,0,v=>rfl
 | c :: l,i+1,v=>by
  show c :: putX l i v=c :: l.set i _
  rw[K_nc l i v];rfl
theorem K_1mb{K:Nat}(hK:300≤K){w:World}{g:Nat}{e:TypeId}{c0 c1 c2 c3:F}(b:Bk e w g (fb [c0,c1,c2,c3])){ps:Sl}{P:List F}(hs:BSrc w ps P)(hP:P.length=2){i:Nat}(hi:i<2)(x:F):
  K_31 K ⟨g,0,none⟩ ps timesV (i:Int) (bF x) (bF c0) true w=some ((bF (vOf c0 c1 x (P.getD (1 - i) 0)),()),w.drew):=by
 have ud:=(Upd.refl none_ w).drew
 obtain⟨d0,d1,d2,d3⟩:=cells4 hK b.drew
 obtain⟨p,p1,p2⟩:=K_1a (hs.upd0 ud) (i:=1 - i) (by omega)
 have hg:P[1 - i]'(by omega)=P.getD (1 - i) 0:=by rw[J_gd,J_ge (by omega)];rfl
 rw[hg]at p2
 have hpl:ps.len=2:=by rw[hs.len,K_1,hP]
 have e1:IntKind.i64.wrap (1 - (i:Int))=((1 - i:Nat):Int):=by rw[w64 (by omega) (by omega)];omega
 have cc:(0:Int)≤((1 - i:Nat):Int)∧((1 - i:Nat):Int)<((ps.len:Nat):Int):=by omega
 unfold K_31 K_a4
 rw[if_pos rfl,p1,J_bs,e1,if_pos cc,J_bs,if_pos cc,J_tn]
 simp only[Nat.mul_one,add_lit,Nat.zero_add,d0,d1,p2,J_bs,K_hb hK,K_n2,K_a,addF,K_z9 hK,bnd_ok]
 rfl
theorem K_1k2{K:Nat}{w:World}{s5:Addr}{ps:Sl}{i x v:Int}:K_31 K s5 ps timesV i x v false w=some ((v,()),w):=rfl
def addV(P:List F)(c0 c1:F)(i:Nat):F:=if P.length=2 then vOf c0 c1 (P.getD i 0) (P.getD (1 - i) 0) else c0
theorem K_1h7{K:Nat}(hK:18446744073709551616≤K){w:World}{g:Nat}{e:TypeId}{c0 c1 c2 c3:F}(b:Bk e w g (fb [c0,c1,c2,c3])){ps out:Sl}{P O:List F}(hs:BSrc w ps P)(ho:OwnS 5 w out (fb O))(hO:O.length≤255){i:Nat}(hi:i<P.length)(hP:P.length≤2)(m:Nat):
  (fix O (P.getD i 0) (addV P c0 c1 i)=none→∃ w',K_e K (m+1) ⟨g,0,none⟩ ps timesV out ps ((P.length:Nat):Int) (i:Int) w=some (.ret (⟨none,0,0⟩,0,false,()),w')∧Upd none_ w w')∧
  (∀ O2,fix O (P.getD i 0) (addV P c0 c1 i)=some O2→∃ w',K_e K (m+1) ⟨g,0,none⟩ ps timesV out ps ((P.length:Nat):Int) (i:Int) w=K_e K m ⟨g,0,none⟩ ps timesV out ps ((P.length:Nat):Int) ((i+1:Nat):Int) w'∧OwnS 5 w' out (fb O2)∧Upd (fun k=>out.blk=some k) w w'):=by
 have hpl:ps.len=P.length:=by rw[hs.len,K_1]
 have hol:out.len=O.length:=by rw[ho.len,K_1]
 obtain⟨d0,d1,d2,d3⟩:=cells4 (show 300≤K by omega) b
 obtain⟨p,p1,p2⟩:=K_1a hs hi
 have hg:P[i]=P.getD i 0:=by rw[J_gd,J_ge (by omega)];rfl
 rw[hg]at p2
 have cc:(0:Int)≤(i:Int)∧(i:Int)<((ps.len:Nat):Int):=by omega
 have e3:IntKind.i64.wrap ((i:Int)+1)=((i+1:Nat):Int):=by rw[w64 (by omega) (by omega)];rfl
 obtain⟨w1,h7,u1⟩:∃ w1,K_31 K ⟨g,0,none⟩ ps timesV (i:Int) (bF (P.getD i 0)) (bF c0) (((ps.len:Nat):Int) == 2) w=some ((bF (addV P c0 c1 i),()),w1)∧Upd none_ w w1:=by
  by_cases h2:P.length=2
  ·have:(((ps.len:Nat):Int) == 2)=true:=by rw[hpl,h2];rfl
   rw[this]
   refine⟨w.drew,?_,(Upd.refl _ _).drew⟩
   rw[K_1mb (by omega) b hs h2 (by omega)]
   unfold addV;rw[if_pos h2]
  ·have:(((ps.len:Nat):Int) == 2)=false:=by rw[beq_eq_false_iff_ne];omega
   rw[this]
   refine⟨w,?_,Upd.refl _ _⟩
   rw[K_1k2]
   unfold addV;rw[if_neg h2]
 have h9:=K_1ls (K:=K) (by omega) (s5:=⟨g,0,none⟩) (ps:=ps) (out:=out) (a113:=ps) (P.getD i 0) (addV P c0 c1 i) (a114:=((P.length:Nat):Int)) (a115:=(i:Int)) (n:=O.length) hO hol O.length 0 K w1 none (by omega) (by omega)
 have h9:K_24 K K ⟨g,0,none⟩ ps timesV out (bF (P.getD i 0)) (bF (addV P c0 c1 i)) (-1) ps ((P.length:Nat):Int) (i:Int) ((out.len:Nat):Int) 0 w1=some ((atI (atOf O.length (P.getD i 0)),()),w1):=by rw[hol];exact h9
 have hun:K_e K (m+1) ⟨g,0,none⟩ ps timesV out ps ((P.length:Nat):Int) (i:Int) w=K_5b K (K_e K m) ⟨g,0,none⟩ ps timesV out ps ((P.length:Nat):Int) (i:Int) w:=rfl
 rw[hun]
 unfold K_5b
 rw[if_pos (decide_eq_true (show (i:Int)<((P.length:Nat):Int) by omega)),p1,J_bs,if_pos cc,J_tn,Nat.mul_one,p2,J_bs,Nat.zero_mul,add_lit,Nat.zero_add,d0,J_bs,h7,bnd_ok]
 dsimp only
 rw[h9,bnd_ok]
 unfold Gf.fix
 cases ha:atOf O.length (P.getD i 0) with
 | none=>
  refine⟨fun _=>⟨w1,?_,u1⟩,fun O2 h=>by cases h⟩
  rfl
 | some k=>
  refine⟨fun h=>(by cases h),fun O2 h=>?_⟩
  have h:putX O k (addV P c0 c1 i)=O2:=Option.some.inj h
  have hk:=(K_17t hO ha).1
  have ho1:=ho.upd0 u1
  obtain⟨q,q1,q2⟩:=K_ah ho1 (i:=k) hk
  obtain⟨q',w2,s1,s2,s3,s4⟩:=K_eu ho1 (i:=k) hk (O.getD k 0+addV P c0 c1 i)
  obtain rfl:q'=q:=Option.some.inj (s1.symm.trans q1)
  rw[←K_nc,h]at s3
  have ck:(0:Int)≤(k:Int)∧(k:Int)<((out.len:Nat):Int):=by omega
  refine⟨w2,?_,s3,(u1.mono (T:=fun k=>out.blk=some k) fun _ _ e=>e.elim).trans' s4 fun _ _ e=>e⟩
  have eat:atI (some k)=(k:Int):=rfl
  rw[eat]
  dsimp only
  rw[if_neg (by simp only[decide_eq_true_eq];omega),q1,J_bs,if_pos ck,J_tn,Nat.mul_one,q2,J_bs,J_bs,if_pos ck,addF,s2,J_bs,e3]
theorem K_1d1{K:Nat}{s5:Addr}{ps out:Sl}{n:Nat}{w:World}(m:Nat):K_e K (m+1) s5 ps timesV out ps ((n:Nat):Int) ((n:Nat):Int) w=some (.norm (),w):=by
 show K_5b K (K_e K m) s5 ps timesV out ps ((n:Nat):Int) ((n:Nat):Int) w=_
 unfold K_5b
 rw[if_neg (by simp)]
theorem K_1cu{K:Nat}(hK:18446744073709551616≤K){w:World}{b:Sl}{l:List F}(hs:BSrc w b l)(hl:l.length≤255):
  ∃ s n v w',K_70 K b w=some ((s,n,v,()),w')∧Upd none_ w w'∧(match Gf.repP l with | some r=>v=true∧n=((r.2:Nat):Int)∧BSrc w' s r.1∧(s=b∨Fresh w.heap.size s) | none=>v=false):=by
 have hK3:300≤K:=by omega
 obtain⟨w1,a1,u1⟩:=K_17n hK hs (by omega)
 obtain⟨w2,b1,b2,b3,b4⟩:=K_9 z170 170 w1
 have b2:Bk 170 w2 w1.heap.size (fb [0,0,0,0]):=b2
 obtain⟨w3,c1,c2,c3⟩:=b2.stA (o:=0) (vs:=(fb (sumsL l)).toArray) (by simp[fb,ints,sumsL]) (fun v hv=>K_k _ v hv)
 have c2:Bk 170 w3 w1.heap.size (fb [sj l 0,sj l 1,sj l 2,sj l 3]):=c2
 have u3:Upd none_ w w3:=(u1.and0 b3).trans' c3 fun k hk e=>by have:=u1.size;omega
 have g1:=c2.ldA (i:=0) (n:=4) (by rw[K_1];simp)
 have g1:ldA 4 ⟨w1.heap.size,0,none⟩ w3=some (fb (sumsL l)).toArray:=g1
 have hq1:=u1.size
 unfold K_70
 rw[a1,bnd_ok,b1,bnd_ok,if_pos (by simp[fb,ints,sumsL]),c1,J_bs,g1,J_bs,built170,J_bs,eq170 rfl rfl,J_bs]
 unfold Gf.repP
 by_cases hr:Right l
 ·rw[if_pos (decide_eq_true ((K_el l).2 hr)),if_pos hr]
  exact⟨b,0,true,w3,rfl,u3,rfl,rfl,hs.upd0 u3,.inl rfl⟩
 ·rw[if_neg (fun h=>hr ((K_el l).1 (of_decide_eq_true h))),if_neg hr,K_1ml hK3 c2,bnd_ok]
  have c2':=c2.drew
  have u3':=u3.drew
  have hbd:(bF (sj l 0*sj l 2+sj l 1*sj l 1) == 0)=decide (Gf.delta l=0):=by rw[Bool.eq_iff_iff,K_kh,decide_eq_true_eq];rfl
  dsimp only
  rw[hbd]
  have tail:∀ (w4:World) (ps:Sl) (P:List F),Upd none_ w w4→Bk 170 w4 w1.heap.size (fb [sj l 0,sj l 1,sj l 2,sj l 3])→OwnS 5 w4 ps (fb P)→1≤P.length→P.length≤2→
    ∃ s n v w',(bnd (K_i b w4) fun r_104 w_105=>
 bnd (K_e K K ⟨w1.heap.size,0,none⟩ ps timesV r_104.1 ps ((ps.len:Nat):Int) 0 w_105) fun y_138 w_139=>
 (match y_138 with
 | .norm z_140n=>((prog.built 170 []).bind fun cs_141=>
 bnd (K_43 K r_104.1 w_139.drew) fun r_142 w_143=>
 (eqA prog 170 r_142.1 cs_141).bind fun b_144=>
 some ((r_104.1,((ps.len:Nat):Int),b_144,()),w_143))
 | .ret z_140r=>(some ((z_140r.1,z_140r.2.1,z_140r.2.2.1,()),w_139))))=some ((s,n,v,()),w')∧Upd none_ w w'∧
     (match (match P with
      | [x]=>Gf.fix l x (sj l 0)
      | [x,y]=>(Gf.fix l x (vOf (sj l 0) (sj l 1) x y)).bind fun o=>Gf.fix o y (vOf (sj l 0) (sj l 1) y x)
      | _=>none) with
     | some o=>(v=decide (Right o))∧n=((P.length:Nat):Int)∧BSrc w' s o∧Fresh w.heap.size s
     | none=>v=false):=by
   intro w4 ps P u4 k4 ho hP1 hP2
   have q4:=u4.size
   have hpl:ps.len=P.length:=by rw[ho.len,K_1]
   obtain⟨so,w5,d1,d2,d3,d4⟩:=K_of K (hs.upd0 u4) (by omega)
   have k5:=k4.upd0 d3
   have hp5:=(ho.upd0 d3).src (K_k _)
   have hpne:∀ q,ps.a=some q→¬so.blk=some q.block:=fun q hq e=>by have:=d4 _ e;have:=K_rn ho q hq;omega
   have hgne:¬so.blk=some w1.heap.size:=fun e=>by have:=d4 _ e;have:=k4.lt;omega
   obtain⟨k,hk⟩:∃ k,K=k+4:=⟨K - 4,by omega⟩
   have fin:∀ (w6:World) (o:List F),o.length≤255→OwnS 5 w6 so (fb o)→Upd none_ w w6→∃ s n v w',((prog.built 170 []).bind fun cs_141=>
      bnd (K_43 K so w6.drew) fun r_142 w_143=>(eqA prog 170 r_142.1 cs_141).bind fun b_144=>some ((so,((ps.len:Nat):Int),b_144,()),w_143))=some ((s,n,v,()),w')∧Upd none_ w w'∧
     ((v=decide (Right o))∧n=((P.length:Nat):Int)∧BSrc w' s o∧Fresh w.heap.size s):=by
    intro w6 o hol ho6 u6
    have hs6:=(ho6.upd0 (Upd.refl none_ w6).drew).src (K_k _)
    obtain⟨w7,e1,e2⟩:=K_17n hK hs6 (by omega)
    refine⟨so,((ps.len:Nat):Int),decide (Right o),w7,?_,(u6.drew).and0 e2,rfl,?_,hs6.upd0 e2,fun j hj=>by have:=d4 j hj;omega⟩
    ·rw[built170,J_bs,e1,bnd_ok,eq170 rfl rfl,J_bs,decide_eq_decide.2 (K_el o)]
    ·rw[hpl]
   rw[d1,bnd_ok]
   dsimp only
   have hK0:∀ n,n=k+4→K_e K n ⟨w1.heap.size,0,none⟩ ps timesV so ps ((ps.len:Nat):Int) 0 w5=K_e K (k+4) ⟨w1.heap.size,0,none⟩ ps timesV so ps ((P.length:Nat):Int) ((0:Nat):Int) w5:=fun n hn=>by rw[hn,hpl];rfl
   rw[hK0 K hk]
   obtain⟨n1,s1⟩:=K_1h7 hK k5 hp5 d2 hl (i:=0) (by omega) hP2 (k+3)
   match P,hP1,hP2,hpl,n1,s1,ho,hp5 with
   | [x],_,_,hpl,n1,s1,ho,hp5=>
    have ea:addV [x] (sj l 0) (sj l 1) 0=sj l 0:=rfl
    rw[ea]at n1 s1
    have eg:[x].getD 0 0=x:=rfl
    rw[eg]at n1 s1
    dsimp only
    cases hf:Gf.fix l x (sj l 0) with
    | none=>
     obtain⟨w6,e1,e2⟩:=n1 hf
     exact⟨_,_,_,w6,by rw[e1,bnd_ok],(u4.and0 d3).and0 e2,rfl⟩
    | some o=>
     obtain⟨w6,e1,e2,e3⟩:=s1 o hf
     have u6:Upd none_ w w6:=(u4.and0 d3).trans' e3 fun j hj e=>by have:=d4 j e;omega
     obtain⟨s,n,v,w',f1,f2,f3⟩:=fin w6 o (by rw[K_cb hf];exact hl) e2 u6
     refine⟨s,n,v,w',?_,f2,f3⟩
     rw[e1]
     have:=K_1d1 (K:=K) (s5:=⟨w1.heap.size,0,none⟩) (ps:=ps) (out:=so) (n:=[x].length) (w:=w6) (k+2)
     have this:K_e K (k+3) ⟨w1.heap.size,0,none⟩ ps timesV so ps (([x].length:Nat):Int) ((0+1:Nat):Int) w6=some (.norm (),w6):=this
     rw[this,bnd_ok]
     exact f1
   | [x,y],_,_,hpl,n1,s1,ho,hp5=>
    have ea:addV [x,y] (sj l 0) (sj l 1) 0=vOf (sj l 0) (sj l 1) x y:=rfl
    rw[ea]at n1 s1
    have eg:[x,y].getD 0 0=x:=rfl
    rw[eg]at n1 s1
    dsimp only
    cases hf:Gf.fix l x (vOf (sj l 0) (sj l 1) x y) with
    | none=>
     obtain⟨w6,e1,e2⟩:=n1 hf
     exact⟨_,_,_,w6,by rw[e1,bnd_ok],(u4.and0 d3).and0 e2,rfl⟩
    | some o=>
     obtain⟨w6,e1,e2,e3⟩:=s1 o hf
     have u56:Upd (fun j=>so.blk=some j) w5 w6:=e3
     have u6:Upd none_ w w6:=(u4.and0 d3).trans' e3 fun j hj e=>by have:=d4 j e;omega
     obtain⟨n2,s2⟩:=K_1h7 hK (k5.upd u56 hgne) (K_59 hp5 u56 fun q hq _=>hpne q hq) e2 (by rw[K_cb hf];exact hl) (i:=1) (by simp) (by simp) (k+2)
     have ea:addV [x,y] (sj l 0) (sj l 1) 1=vOf (sj l 0) (sj l 1) y x:=rfl
     rw[ea]at n2 s2
     have eg:[x,y].getD 1 0=y:=rfl
     rw[eg]at n2 s2
     rw[J_bs]
     cases hf2:Gf.fix o y (vOf (sj l 0) (sj l 1) y x) with
     | none=>
      obtain⟨w7,f1,f2⟩:=n2 hf2
      exact⟨_,_,_,w7,by rw[e1,f1,bnd_ok],u6.and0 f2,rfl⟩
     | some o2=>
      obtain⟨w7,f1,f2,f3⟩:=s2 o2 hf2
      have u7:Upd none_ w w7:=u6.trans' f3 fun j hj e=>by have:=d4 j e;omega
      obtain⟨s,n,v,w',g1,g2,g3⟩:=fin w7 o2 (by rw[K_cb hf2,K_cb hf];exact hl) f2 u7
      refine⟨s,n,v,w',?_,g2,g3⟩
      rw[e1,f1]
      have:=K_1d1 (K:=K) (s5:=⟨w1.heap.size,0,none⟩) (ps:=ps) (out:=so) (n:=[x,y].length) (w:=w7) (k+1)
      have this:K_e K (k+2) ⟨w1.heap.size,0,none⟩ ps timesV so ps (([x,y].length:Nat):Int) ((1+1:Nat):Int) w7=some (.norm (),w7):=this
      rw[this,bnd_ok]
      exact g1
  unfold K_a7
  by_cases hd:Gf.delta l=0
  ·rw[if_pos (decide_eq_true hd),if_pos hd,K_1lr hK3 c2',bnd_ok]
   dsimp only
   by_cases hz:sj l 0=0∨sj l 1=0
   ·rw[if_pos (decide_eq_true hz),if_pos hz,bnd_ok]
    exact⟨_,_,_,_,rfl,u3',rfl⟩
   ·rw[if_neg (fun h=>hz (of_decide_eq_true h)),if_neg hz]
    obtain⟨d0,d1,_,_⟩:=cells4 hK3 c2'
    obtain⟨w4,e1,e2,e3,e4⟩:=K_8u sliceB (.int .u8 (bF (sj l 1*(sj l 0).inv))) rfl w3.drew
    have e2:OwnS 5 w4 ⟨some ⟨w3.drew.heap.size,0,none⟩,1,1⟩ (fb [sj l 1*(sj l 0).inv]):=e2
    obtain⟨s,n,v,w',f1,f2,f3⟩:=tail w4 ⟨some ⟨w3.drew.heap.size,0,none⟩,1,1⟩ _ (u3'.and0 e3) (c2'.upd0 e3) e2 (by simp) (by simp)
    refine⟨s,n,v,w',?_,f2,?_⟩
    ·rw[Nat.mul_one,Nat.mul_one,add_lit,add_lit,Nat.zero_add,Nat.zero_add,d1,J_bs,d0,J_bs,K_z9 hK3,J_bs,e1,bnd_ok,bnd_ok]
     exact f1
    ·dsimp only at f3
     cases hf:Gf.fix l (sj l 1*(sj l 0).inv) (sj l 0) with
     | none=>rw[hf]at f3;exact f3
     | some o=>
      rw[hf]at f3
      dsimp only at f3
      obtain⟨g1,g2,g3,g4⟩:=f3
      rw[J_bs]
      by_cases hro:Right o
      ·rw[if_pos hro]
       exact⟨by rw[g1,decide_eq_true hro],g2,g3,.inr g4⟩
      ·rw[if_neg hro]
       show v=false
       rw[g1,decide_eq_false hro]
  ·rw[if_neg (fun h=>hd (of_decide_eq_true h)),if_neg hd]
   have hs3:=K_1lv hK3 c2' (Gf.delta l)
   have hs3:K_4l K ⟨w1.heap.size,0,none⟩ timesV (bF (sj l 0*sj l 2+sj l 1*sj l 1)) w3.drew=some ((bF (Gf.one l),()),w3.drew.drew):=hs3
   have hs4:=K_1mg hK3 c2'.drew (Gf.delta l)
   have hs4:K_4w K ⟨w1.heap.size,0,none⟩ timesV (bF (sj l 0*sj l 2+sj l 1*sj l 1)) w3.drew.drew=some ((bF (Gf.two l),()),w3.drew.drew.drew):=hs4
   obtain⟨sp,w4,e1,e2,e3,e4⟩:=K_1mf hK3 (b:=b) (s5:=⟨w1.heap.size,0,none⟩) (Gf.one l) (Gf.two l) hl l.length 0 K w3.drew.drew.drew ⟨none,0,0⟩ [] (by omega) (by omega) (by simp) (OwnS.nil _ _)
   have hbl:b.len=l.length:=by rw[hs.len,K_1]
   have e1:K_1j K K b ⟨w1.heap.size,0,none⟩ ⟨none,0,0⟩ timesV (bF (Gf.one l)) (bF (Gf.two l)) ((b.len:Nat):Int) 0 w3.drew.drew.drew=some ((sp,()),w4):=by rw[hbl];exact e1
   rw[hs3,bnd_ok]
   dsimp only
   rw[hs4,bnd_ok]
   dsimp only
   rw[e1,bnd_ok]
   rw[List.nil_append]at e2
   have hspl:sp.len=(Gf.roots l).length:=by rw[e2.len,K_1];rfl
   have u4:Upd none_ w w4:=(u3'.drew.drew).trans' e3 fun j hj e=>by cases e
   have c4:Bk 170 w4 w1.heap.size (fb [sj l 0,sj l 1,sj l 2,sj l 3]):=(c2'.drew.drew).upd e3 fun e=>by cases e
   dsimp only
   by_cases h2:(Gf.roots l).length=2
   ·rw[if_neg (by rw[hspl,h2];decide),bnd_ok]
    obtain⟨x,y,hxy⟩:∃ x y,Gf.roots l=[x,y]:=by
     match hm:Gf.roots l,h2 with
     | [x,y],_=>exact⟨x,y,rfl⟩
    have e2:OwnS 5 w4 sp (fb [x,y]):=by rw[←hxy];exact e2
    obtain⟨s,n,v,w',f1,f2,f3⟩:=tail w4 sp _ u4 c4 e2 (by simp) (by simp)
    refine⟨s,n,v,w',f1,f2,?_⟩
    rw[hxy]
    dsimp only at f3 ⊢
    cases hf:Gf.fix l x (vOf (sj l 0) (sj l 1) x y) with
    | none=>rw[hf]at f3;exact f3
    | some o=>
     rw[hf,J_bs]at f3
     rw[J_bs]
     cases hf2:Gf.fix o y (vOf (sj l 0) (sj l 1) y x) with
     | none=>rw[hf2]at f3;exact f3
     | some o2=>
      rw[hf2]at f3
      dsimp only at f3
      obtain⟨g1,g2,g3,g4⟩:=f3
      rw[J_bs]
      by_cases hro:Right o2
      ·rw[if_pos hro]
       exact⟨by rw[g1,decide_eq_true hro],g2,g3,.inr g4⟩
      ·rw[if_neg hro]
       show v=false
       rw[g1,decide_eq_false hro]
   ·rw[if_pos (by rw[hspl];simp only[bne_iff_ne,ne_eq];omega),bnd_ok]
    refine⟨_,_,_,_,rfl,u4,?_⟩
    obtain⟨R,hR⟩:∃ R,Gf.roots l=R:=⟨_,rfl⟩
    rw[hR]at h2 ⊢
    match R,h2 with
    | [],_=>rfl
    | [_],_=>rfl
    | [_,_],h2=>exact absurd rfl h2
    | _ :: _ :: _ :: _,_=>rfl
end Go.Sh

namespace Go.Sh
open Go.Fw Go.Gf Go.RowKit Go.Proofs.Tryd
def powL(n:Nat):List F:=(List.range n).map tj
theorem K_15(n:Nat):(powL n).length=n:=by simp[powL]
theorem K_1ge(n:Nat):powL (n+1)=powL n ++ [tj n]:=by simp[powL,List.range_succ]
theorem K_gl{n i:Nat}(hi:i<n):(powL n)[i]'(by rw[K_15];exact hi)=tj i:=by simp[powL]
theorem K_ez{w:World}{s:Sl}{l:List F}(ho:OwnS 5 w s (fb l))(hl:l.length≤1099511627776)(v:F):
  ∃ w1 s' w',bldS prog 23 1 #[(0,(.int .u8 (bF v)))] w=some (⟨some ⟨w.heap.size,0,none⟩,1,1⟩,w1)∧apd prog 23 23 (.slice s.a s.len s.cap) (.slice (some ⟨w.heap.size,0,none⟩) 1 1) w1=some (s',w')∧OwnS 5 w' s' (fb (l ++ [v]))∧Upd (fun k=>s.blk=some k) w w'∧∀ k,s'.blk=some k→s.blk=some k∨w.heap.size≤k:=by
 obtain⟨w1,a1,a2,a3,a4⟩:=K_8u sliceB (.int .u8 (bF v)) rfl w
 have a2:OwnS 5 w1 ⟨some ⟨w.heap.size,0,none⟩,1,1⟩ (fb [v]):=a2
 have hpl:=ho.len
 rw[K_1]at hpl
 obtain⟨s2,w2,b1,b2,b3,b4,b5⟩:=K_1e sliceB (ho.upd0 a3) (a2.src K_f) (by show (s.len+1)*1≤_;omega)
 rw[←K_4s]at b3
 have q1:=a3.size
 refine⟨w1,s2,w2,a1,b1,b3,(a3.mono (T:=fun k=>s.blk=some k) fun _ _ e=>e.elim).trans' b4 fun _ _ e=>e,fun k hk=>?_⟩
 rcases b5 with e | e
 ·rw[e]at hk;exact .inl hk
 ·rw[e]at hk;have e2:w1.heap.size=k:=Option.some.inj hk;exact .inr (by omega)
theorem K_1ai{K:Nat}(hK:300≤K){n:Nat}(hn:n≤1099511627776):
  ∀ (d i m:Nat) (w:World) (s:Sl),i+d=n→d<m→OwnS 5 w s (fb (powL i))→
   ∃ s' w',K_3r K m (n:Int) s (bF (tj i)) (i:Int) w=some ((s',()),w')∧OwnS 5 w' s' (fb (powL n))∧Upd (fun k=>s.blk=some k) w w'∧∀ k,s'.blk=some k→s.blk=some k∨w.heap.size≤k:=by
 intro d
 induction d with
 | zero=>
  intro i m w s hi hm ho
  obtain⟨m,rfl⟩:∃ q,m=q+1:=⟨m - 1,by omega⟩
  obtain rfl:i=n:=by omega
  refine⟨s,w,?_,ho,Upd.refl _ _,fun k hk=>.inl hk⟩
  show K_76 K (K_3r K m) (i:Int) s (bF (tj i)) (i:Int) w=_
  unfold K_76
  rw[if_neg (by simp)]
 | succ d ih=>
  intro i m w s hi hm ho
  obtain⟨m,rfl⟩:∃ q,m=q+1:=⟨m - 1,by omega⟩
  have e3:IntKind.i64.wrap ((i:Int)+1)=((i+1:Nat):Int):=by rw[w64 (by omega) (by omega)];rfl
  obtain⟨w1,s2,w2,a1,a2,a3,a4,a5⟩:=K_ez ho (by rw[K_15];omega) (tj i)
  rw[←K_1ge]at a3
  obtain⟨s3,w3,b1,b2,b3,b4⟩:=ih (i+1) m w2 s2 (by omega) (by omega) a3
  have q:=a4.size
  have et:=rtimes hK (tj i) F.three
  rw[K_1bo]at et
  refine⟨s3,w3,?_,b2,a4.trans' b3 (fun k hk e=>(a5 k e).elim id fun e2=>absurd hk (by omega)),fun k hk=>(b4 k hk).elim (a5 k) fun e=>.inr (by omega)⟩
  show K_76 K (K_3r K m) (n:Int) s (bF (tj i)) (i:Int) w=_
  unfold K_76
  rw[if_pos (decide_eq_true (show (i:Int)<(n:Int) by omega)),a1,bnd_ok]
  dsimp only
  rw[a2,bnd_ok,et,J_bs,e3]
  exact b1
theorem K_tt{K:Nat}(hK:18446744073709551616≤K)(w:World){n:Nat}(hn:n≤1099511627776):
  ∃ s' w',K_2y K (n:Int) w=some ((s',()),w')∧OwnS 5 w' s' (fb (powL n))∧Upd none_ w w'∧Fresh w.heap.size s':=by
 obtain⟨s',w',a1,a2,a3,a4⟩:=K_1ai (K:=K) (by omega) hn n 0 K w ⟨none,0,0⟩ (by omega) (by omega) (OwnS.nil _ _)
 have a1:K_3r K K (n:Int) ⟨none,0,0⟩ 1 0 w=some ((s',()),w'):=a1
 refine⟨s',w',?_,a2,a3.mono (fun j _ e=>by cases e),fun j hj=>(a4 j hj).elim (fun e=>by cases e) id⟩
 unfold K_2y
 rw[a1,bnd_ok]
theorem K_1ki{a b v:F}(hb:b≠0)(h:v.n<(a*b.inv).n):v*b≠a:=fun e=>by
 have:v=a*b.inv:=by rw[←e,F.mul_assoc,F.mul_inv hb,F.mul_one]
 rw[this]at h;exact absurd h (Nat.lt_irrefl _)
theorem K_1en{K:Nat}(hK:300≤K){a b:F}(hb:b≠0):∀ (d i m:Nat),i+d=(a*b.inv).n→d<m→K_5n K m (bF a) (bF b) (i:Int)=some (.ret (bF (a*b.inv),())):=by
 have hab:a*b.inv*b=a:=by rw[F.mul_assoc,F.inv_mul hb,F.mul_one]
 intro d
 induction d with
 | zero=>
  intro i m hi hm
  obtain⟨m,rfl⟩:∃ q,m=q+1:=⟨m - 1,by omega⟩
  have hlt:=(a*b.inv).lt
  have hbi:IntKind.u8.wrap (i:Int)=bF (a*b.inv):=by
   rw[IntKind.wrap_u8];show _=(((a*b.inv).n:Nat):Int);omega
  show K_9v K (K_5n K m) (bF a) (bF b) (i:Int)=_
  unfold K_9v
  rw[if_pos (decide_eq_true (show (i:Int)<256 by omega)),hbi,rtimes hK,J_bs,hab,if_pos (by simp)]
 | succ d ih=>
  intro i m hi hm
  obtain⟨m,rfl⟩:∃ q,m=q+1:=⟨m - 1,by omega⟩
  have hlt:=(a*b.inv).lt
  obtain⟨v,hv⟩:∃ v:F,v.n=i:=⟨⟨i,by omega⟩,rfl⟩
  have hbi:IntKind.u8.wrap (i:Int)=bF v:=by
   rw[IntKind.wrap_u8];show _=((v.n:Nat):Int);omega
  have hne:=K_1ki hb (v:=v) (a:=a) (by omega)
  have hbq:¬(bF (v*b) == bF a)=true:=by rw[beq_iff_eq,bF_eq];exact hne
  have e3:IntKind.i64.wrap ((i:Int)+1)=((i+1:Nat):Int):=by rw[w64 (by omega) (by omega)];rfl
  show K_9v K (K_5n K m) (bF a) (bF b) (i:Int)=_
  unfold K_9v
  rw[if_pos (decide_eq_true (show (i:Int)<256 by omega)),hbi,rtimes hK,J_bs]
  dsimp only
  rw[if_neg hbq,e3]
  exact ih (i+1) m (by omega) (by omega)
theorem K_1hv{K:Nat}(hK:300≤K)(a:F){b:F}(hb:b≠0):K_aa K (bF a) (bF b)=some (bF (a*b.inv),()):=by
 have h:=K_1en hK (a:=a) hb (a*b.inv).n 0 K (by omega) (by have:=(a*b.inv).lt;omega)
 have h:K_5n K K (bF a) (bF b) 0=_:=h
 unfold K_aa
 rw[h];rfl
def sumG(j:Nat):F→List F→F
 | a,[]=>a
 | a,c :: l=>sumG j (a+c*tj (j*l.length)) l
theorem K_rg(j:Nat):∀ (l:List F) (a:F),sumG j a l=a+sj l j
 | [],a=>by show a=a+0;rw[F.add_zero]
 | c :: l,a=>by
  show sumG j (a+c*tj (j*l.length)) l=_
  rw[K_rg j l]
  unfold sj
  rw[K_2k,Nat.mul_comm,K_19t,F.add_assoc]
theorem K_v4{K:Nat}(hK:300≤K){b ps:Sl}{l:List F}{g:Nat}{e:TypeId}{a2:Addr}(hl:l.length≤1099511627776){i:Nat}(hi:i<l.length){w:World}{S:List F}(hS:S.length=4)(hb:Bk e w g (fb S))(hs:BSrc w b l)(hp:BSrc w ps (powL 255)){j m:Nat}(hj:j<4):
  ∃ w',K_32 K (m+1) b a2 ⟨g,0,none⟩ ps ((l.length:Nat):Int) (i:Int) (j:Int) w=K_32 K m b a2 ⟨g,0,none⟩ ps ((l.length:Nat):Int) (i:Int) ((j+1:Nat):Int) w'∧Bk e w' g (fb (S.set j (S.getD j 0+l[i] *tj (j*(l.length - 1 - i)))))∧Upd (· =g) w w':=by
 have hbl:b.len=l.length:=by rw[hs.len,K_1]
 have hpl:ps.len=255:=by rw[hp.len,K_1,K_15]
 have ud:=(Upd.refl none_ w).drew
 obtain⟨r,hr⟩:∃ r,r=l.length - 1 - i:=⟨_,rfl⟩
 rw[←hr]
 have hjr:j*r≤3*1099511627776:=Nat.mul_le_mul (by omega) (by omega)
 have e1:IntKind.i64.wrap (((l.length:Nat):Int) - 1)=((l.length - 1:Nat):Int):=by rw[w64 (by omega) (by omega)];omega
 have e2:IntKind.i64.wrap (((l.length - 1:Nat):Int) - (i:Int))=((r:Nat):Int):=by rw[w64 (by omega) (by omega)];omega
 have e4:IntKind.i64.wrap ((j:Int)*((r:Nat):Int))=((j*r:Nat):Int):=by rw[←Int.natCast_mul,w64 (by omega) (by omega)]
 have e5:Int.tmod ((j*r:Nat):Int) 255=((j*r % 255:Nat):Int):=rfl
 have hlt:j*r % 255<255:=Nat.mod_lt _ (by decide)
 have hj1:IntKind.i64.wrap ((j:Int)+1)=((j+1:Nat):Int):=by rw[w64 (by omega) (by omega)];rfl
 obtain⟨p,p1,p2⟩:=K_1a (hs.upd0 ud) hi
 obtain⟨q,q1,q2⟩:=K_1a (hp.upd0 ud) (i:=j*r % 255) (by rw[K_15];exact hlt)
 rw[K_gl hlt]at q2
 have etj:tj (j*r % 255)=tj (j*r):=K_12d _
 rw[etj]at q2
 have hc:=K_gf hb.drew (j:=j) (by omega)
 have hgd:S[j]'(by omega)=S.getD j 0:=by rw[J_gd,J_ge (by omega)];rfl
 rw[hgd]at hc
 obtain⟨w1,s1,s2,s3⟩:=hb.drew.stC (i:=j) (by rw[K_1];omega) (.int .u8 (bF (S.getD j 0+l[i] *tj (j*r))))
 rw[K_147]at s2
 have c1:(0:Int)≤(i:Int)∧(i:Int)<((b.len:Nat):Int):=by omega
 have c2:(0:Int)≤(j:Int)∧(j:Int)<((4:Nat):Int):=by omega
 have c3:(0:Int)≤((j*r % 255:Nat):Int)∧((j*r % 255:Nat):Int)<((ps.len:Nat):Int):=by rw[hpl];exact⟨Int.natCast_nonneg _,Int.ofNat_lt.2 hlt⟩
 refine⟨w1,?_,s2,s3.predrew⟩
 show K_a0 K (K_32 K m) b a2 ⟨g,0,none⟩ ps ((l.length:Nat):Int) (i:Int) (j:Int) w=_
 unfold K_a0
 rw[if_pos (decide_eq_true (show (j:Int)<4 by omega)),if_pos c2,p1,J_bs,if_pos c1,q1,J_bs,e1,e2,e4,e5,if_pos c3,J_tn,Nat.mul_one,add_lit,Nat.zero_add,hc,J_bs,J_tn,Nat.mul_one,p2,J_bs,J_tn,Nat.mul_one,q2,J_bs,rtimes hK,J_bs,if_pos c2,addF,s1,J_bs,hj1]
theorem K_1j1{K:Nat}(hK:18446744073709551616≤K){b ps:Sl}{l:List F}{g:Nat}{e:TypeId}{a2:Addr}(hl:l.length≤1099511627776)(hgb:∀ q,b.a=some q→l≠[]→q.block≠g)(hgp:∀ q,ps.a=some q→q.block≠g):
  ∀ (d i m:Nat) (w:World) (a b0 c dd:F),i+d=l.length→d<m→Bk e w g (fb [a,b0,c,dd])→BSrc w b l→BSrc w ps (powL 255)→
   ∃ w',K_5p K m b a2 ⟨g,0,none⟩ ps ((l.length:Nat):Int) (i:Int) w=some ((),w')∧Bk e w' g (fb [sumG 0 a (l.drop i),sumG 1 b0 (l.drop i),sumG 2 c (l.drop i),sumG 3 dd (l.drop i)])∧Upd (· =g) w w':=by
 intro d
 induction d with
 | zero=>
  intro i m w a b0 c dd hi hm hb hs hp
  obtain⟨m,rfl⟩:∃ q,m=q+1:=⟨m - 1,by omega⟩
  refine⟨w,?_,by rw[List.drop_eq_nil_of_le (by omega)];exact hb,Upd.refl _ _⟩
  show K_9w K (K_5p K m) b a2 ⟨g,0,none⟩ ps ((l.length:Nat):Int) (i:Int) w=_
  unfold K_9w
  rw[if_neg (by simp only[decide_eq_true_eq];omega)]
 | succ d ih=>
  intro i m w a b0 c dd hi hm hb hs hp
  obtain⟨m,rfl⟩:∃ q,m=q+1:=⟨m - 1,by omega⟩
  have hil:i<l.length:=by omega
  have e3:IntKind.i64.wrap ((i:Int)+1)=((i+1:Nat):Int):=by rw[w64 (by omega) (by omega)];rfl
  obtain⟨k,hk⟩:∃ k,K=k+5:=⟨K - 5,by omega⟩
  have up:∀ {w w':World},BSrc w b l→Upd (· =g) w w'→BSrc w' b l:=fun h u=>K_59 h u fun q hq hne=>hgb q hq hne
  have upp:∀ {w w':World},BSrc w ps (powL 255)→Upd (· =g) w w'→BSrc w' ps (powL 255):=fun h u=>K_59 h u fun q hq _=>hgp q hq
  obtain⟨w1,a1,b1,u1⟩:=K_v4 (K:=K) (by omega) (a2:=a2) hl hil rfl hb hs hp (j:=0) (m:=k+4) (by omega)
  obtain⟨w2,a2',b2,u2⟩:=K_v4 (K:=K) (by omega) (a2:=a2) hl hil (by rfl) b1 (up hs u1) (upp hp u1) (j:=1) (m:=k+3) (by omega)
  have u12:=u1.trans' u2 fun _ _ e=>e
  obtain⟨w3,a3,b3,u3⟩:=K_v4 (K:=K) (by omega) (a2:=a2) hl hil (by rfl) b2 (up hs u12) (upp hp u12) (j:=2) (m:=k+2) (by omega)
  have u13:=u12.trans' u3 fun _ _ e=>e
  obtain⟨w4,a4,b4,u4⟩:=K_v4 (K:=K) (by omega) (a2:=a2) hl hil (by rfl) b3 (up hs u13) (upp hp u13) (j:=3) (m:=k+1) (by omega)
  have u14:=u13.trans' u4 fun _ _ e=>e
  have b4:Bk e w4 g (fb [a+l[i] *tj (0*(l.length - 1 - i)),b0+l[i] *tj (1*(l.length - 1 - i)),c+l[i] *tj (2*(l.length - 1 - i)),dd+l[i] *tj (3*(l.length - 1 - i))]):=b4
  have hin:K_32 K K b a2 ⟨g,0,none⟩ ps ((l.length:Nat):Int) (i:Int) 0 w=some ((),w4):=by
   have gen:∀ n,n=k+5→K_32 K n b a2 ⟨g,0,none⟩ ps ((l.length:Nat):Int) (i:Int) ((0:Nat):Int) w=some ((),w4):=fun n hn=>by
    rw[hn,a1,a2',a3,a4]
    show K_a0 K (K_32 K k) b a2 ⟨g,0,none⟩ ps ((l.length:Nat):Int) (i:Int) ((4:Nat):Int) w4=_
    unfold K_a0
    rw[if_neg (by decide)]
   exact gen K hk
  obtain⟨w5,c1,c2,c3⟩:=ih (i+1) m w4 _ _ _ _ (by omega) (by omega) b4 (up hs u14) (upp hp u14)
  refine⟨w5,?_,?_,u14.trans' c3 fun _ _ e=>e⟩
  ·show K_9w K (K_5p K m) b a2 ⟨g,0,none⟩ ps ((l.length:Nat):Int) (i:Int) w=_
   unfold K_9w
   rw[if_pos (decide_eq_true (show (i:Int)<((l.length:Nat):Int) by omega)),hin,bnd_ok,e3]
   exact c1
  ·rw[List.drop_eq_getElem_cons hil]
   have hr:(l.drop (i+1)).length=l.length - 1 - i:=by rw[List.length_drop];omega
   show Bk e w5 g (fb [sumG 0 (a+l[i] *tj (0*(l.drop (i+1)).length)) _,sumG 1 (b0+l[i] *tj (1*(l.drop (i+1)).length)) _,sumG 2 (c+l[i] *tj (2*(l.drop (i+1)).length)) _,sumG 3 (dd+l[i] *tj (3*(l.drop (i+1)).length)) _])
   rw[hr]
   exact c2
theorem K_1ba{K:Nat}(hK:18446744073709551616≤K){w:World}{b:Sl}{l:List F}(hs:BSrc w b l)(hl:l.length≤1099511627776):
  ∃ w',K_c0 K b w=some (((fb (sumsL l)).toArray,()),w')∧Upd none_ w w':=by
 have hbl:b.len=l.length:=by rw[hs.len,K_1]
 have hlt:=K_h5 hs
 obtain⟨w1,a1,a2,a3,a4⟩:=K_9 z153 153 w
 obtain⟨w2,b1,b2,b3,b4⟩:=K_9 z153 153 w1
 have a2:Bk 153 w1 w.heap.size (fb [0,0,0,0]):=a2
 have b2:Bk 153 w2 w1.heap.size (fb [0,0,0,0]):=b2
 obtain⟨sp,w3,c1,c2,c3,c4⟩:=K_tt hK w2 (n:=255) (by omega)
 have u3:=(a3.and0 b3).and0 c3
 have q1:=a3.size
 obtain⟨w4,d1,d2,d3⟩:=K_1j1 hK (b:=b) (ps:=sp) (a2:=⟨w.heap.size,0,none⟩) (g:=w1.heap.size) hl (fun q hq hne=>by have:=hlt q hq hne;omega) (fun q hq=>by have:=c4 q.block (by simp[Sl.blk,hq]);omega) l.length 0 K w3 0 0 0 0 (by omega) (by omega) (b2.upd0 c3) (hs.upd0 u3) (c2.src (K_k _))
 have d1:K_5p K K b ⟨w.heap.size,0,none⟩ ⟨w1.heap.size,0,none⟩ sp ((b.len:Nat):Int) 0 w3=some ((),w4):=by rw[hbl];exact d1
 have d2:Bk 153 w4 w1.heap.size (fb (sumsL l)):=by
  rw[List.drop_zero,K_rg,K_rg,K_rg,K_rg,F.zero_add,F.zero_add,F.zero_add,F.zero_add]at d2
  exact d2
 have a6:=((a2.upd0 b3).upd0 c3).upd d3 (by omega)
 have g1:=d2.ldA (i:=0) (n:=4) (by rw[K_1];simp[sumsL])
 obtain⟨w7,h1,h2,h3⟩:=a6.stA (o:=0) (vs:=(fb (sumsL l)).toArray) (by simp[fb,ints,sumsL]) (fun v hv=>K_k _ v hv)
 have h2:Bk 153 w7 w.heap.size (fb (sumsL l)):=h2
 have g2:=h2.ldA (i:=0) (n:=4) (by rw[K_1];simp[sumsL])
 have g1:ldA 4 ⟨w1.heap.size,0,none⟩ w4=some (fb (sumsL l)).toArray:=g1
 have g2:ldA 4 ⟨w.heap.size,0,none⟩ w7=some (fb (sumsL l)).toArray:=g2
 refine⟨w7,?_,(u3.trans' d3 fun j hj e=>by omega).trans' h3 fun j hj e=>by omega⟩
 unfold K_c0
 have c1:K_2y K 255 w2=some ((sp,()),w3):=c1
 rw[a1,bnd_ok,b1,bnd_ok,c1,bnd_ok]
 dsimp only
 rw[d1,bnd_ok,g1,J_bs,if_pos (by simp[fb,ints,sumsL]),h1,J_bs,g2,J_bs]
end Go.Sh

namespace Go.Sh
open Go.Fw Go.Gf Go.RowKit Go.Proofs.Tryd
abbrev nilF:Sl:=⟨none,0,0⟩
abbrev slF(s:Sl):Value:=.slice s.a s.len s.cap
theorem sliceR:OneSlice prog 67 23 (.slice none 0 0) 24:=⟨by kernel_rfl,⟨t23,by kernel_rfl,by kernel_rfl,by kernel_rfl,by kernel_rfl⟩,by decide,rfl,rfl⟩
structure RowsAt(w:World) (rs:Sl) (ss:List Sl) (R:List (List F)) (m B N:Nat):Prop where
 own:OwnS 23 w rs (ss.map slF)
 len:ss.length=R.length
 row:∀ i,i<R.length→OwnS 5 w (ss.getD i nilF) (fb (R.getD i []))
 rlen:∀ i,i<R.length→(R.getD i []).length=m
 apart:∀ i j,i<R.length→j<R.length→i≠j→∀ k,(ss.getD i nilF).blk=some k→(ss.getD j nilF).blk≠some k
 off:∀ i,i<R.length→∀ k,rs.blk=some k→(ss.getD i nilF).blk≠some k
 low:(∀ k,rs.blk=some k→B≤k∧k<N)∧∀ i,i<R.length→∀ k,(ss.getD i nilF).blk=some k→B≤k∧k<N
theorem RowsAt.upd{w w':World}{rs:Sl}{ss:List Sl}{R:List (List F)}{m B N:Nat}{X:Nat→Prop}(h:RowsAt w rs ss R m B N)(u:Upd X w w')(hn:∀ k,B≤k→k<N→¬X k):RowsAt w' rs ss R m B N:=
 ⟨h.own.upd u fun k hk=>hn k (h.low.1 k hk).1 (h.low.1 k hk).2,h.len,fun i hi=>(h.row i hi).upd u fun k hk=>hn k (h.low.2 i hi k hk).1 (h.low.2 i hi k hk).2,h.rlen,h.apart,h.off,h.low⟩
theorem RowsAt.upd0{w w':World}{rs:Sl}{ss:List Sl}{R:List (List F)}{m B N:Nat}(h:RowsAt w rs ss R m B N)(u:Upd none_ w w'):RowsAt w' rs ss R m B N:=h.upd u fun _ _ _=>id
theorem RowsAt.drew{w:World}{rs:Sl}{ss:List Sl}{R:List (List F)}{m B N:Nat}(h:RowsAt w rs ss R m B N):RowsAt w.drew rs ss R m B N:=h.upd0 (Upd.refl _ _).drew
theorem RowsAt.size{w:World}{rs:Sl}{ss:List Sl}{R:List (List F)}{m B N:Nat}(h:RowsAt w rs ss R m B N):rs.len=R.length:=by rw[h.own.len,List.length_map,h.len]
theorem RowsAt.slen{w:World}{rs:Sl}{ss:List Sl}{R:List (List F)}{m B N:Nat}(h:RowsAt w rs ss R m B N){i:Nat}(hi:i<R.length):(ss.getD i nilF).len=m:=by rw[(h.row i hi).len,K_1,h.rlen i hi]
theorem K_16a(ss:List Sl):∀ v∈ss.map slF,v.oneCell'=true:=fun v hv=>by obtain⟨s,_,rfl⟩:=List.mem_map.1 hv;rfl
theorem RowsAt.ld{w:World}{rs:Sl}{ss:List Sl}{R:List (List F)}{m B N:Nat}(h:RowsAt w rs ss R m B N){i:Nat}(hi:i<R.length):∃ p,rs.a=some p∧ldS (p.add i) w=some (ss.getD i nilF):=by
 have hs:=h.own.src (K_16a ss)
 have hl:=h.len
 rcases hs.rd with ⟨_,_,e⟩ | ⟨p,e1,e2⟩
 ·have:=congrArg List.length e
  rw[List.length_map]at this
  simp at this;rw[this]at hl;simp at hl;omega
 ·refine⟨p,e1,?_⟩
  have hv:(ss.map slF)[i]? =some (slF (ss.getD i nilF)):=by
   rw[List.getElem?_map,J_ge (by omega),J_gd,J_ge (by omega)];rfl
  have:=e2 i _ hv
  unfold ldS
  rw[this];rfl
theorem RowsAt.cell{w:World}{rs:Sl}{ss:List Sl}{R:List (List F)}{m B N:Nat}(h:RowsAt w rs ss R m B N){i t:Nat}(hi:i<R.length)(ht:t<m):∃ p,(ss.getD i nilF).a=some p∧ldI .u8 (p.add t) w=some (bF (Gf.E R i t)):=
 K_ah (h.row i hi) (by rw[h.rlen i hi];exact ht)
theorem K_7z{α:Type}{l:List α}{c i:Nat}(v d:α)(hc:c<l.length):(l.set c v).getD i d=if i=c then v else l.getD i d:=by
 rw[J_gd]
 by_cases e:i=c
 ·rw[if_pos e,e,List.getElem?_set_self hc];rfl
 ·rw[if_neg e,List.getElem?_set_ne (fun h=>e h.symm),J_gd]
theorem RowsAt.put{w:World}{rs:Sl}{ss:List Sl}{R:List (List F)}{m B N:Nat}(h:RowsAt w rs ss R m B N){i t:Nat}(hi:i<R.length)(ht:t<m)(v:F):
  ∃ p w',(ss.getD i nilF).a=some p∧stC (p.add t) (.int .u8 (bF v)) w=some w'∧RowsAt w' rs ss (R.set i ((R.getD i []).set t v)) m B N∧Upd (fun k=>B≤k∧k<N) w w':=by
 obtain⟨p,w',a,b,c,d⟩:=K_eu (h.row i hi) (i:=t) (by rw[h.rlen i hi];exact ht) v
 have hl:(R.set i ((R.getD i []).set t v)).length=R.length:=List.length_set
 refine⟨p,w',a,b,⟨h.own.upd d fun k hk e=>h.off i hi k hk e,by rw[hl];exact h.len,fun j hj=>?_,fun j hj=>?_,fun x y hx hy=>h.apart x y (by omega) (by omega),fun x hx=>h.off x (by omega),h.low.1,fun x hx=>h.low.2 x (by omega)⟩,d.mono fun k _ e=>h.low.2 i hi k e⟩
 ·rw[hl]at hj
  rw[K_7z _ _ hi]
  by_cases e:j=i
  ·rw[if_pos e,e];exact c
  ·rw[if_neg e]
   exact(h.row j hj).upd d fun k hk e2=>h.apart i j hi hj (fun x=>e x.symm) k e2 hk
 ·rw[hl]at hj
  rw[K_7z _ _ hi]
  by_cases e:j=i
  ·rw[if_pos e,List.length_set];exact h.rlen i hi
  ·rw[if_neg e];exact h.rlen j hj
theorem RowsAt.swap{w:World}{rs:Sl}{ss:List Sl}{R:List (List F)}{m B N:Nat}(h:RowsAt w rs ss R m B N){c a:Nat}(hc:c<R.length)(ha:a<R.length):
  ∃ p w1 w2 ss',rs.a=some p∧stC (p.add c) (slF (ss.getD a nilF)) w=some w1∧stC (p.add a) (slF (ss.getD c nilF)) w1=some w2∧RowsAt w2 rs ss' (Gf.swapR R c a) m B N∧Upd (fun k=>B≤k∧k<N) w w2:=by
 have hrl:=h.size
 have hsl:=h.len
 obtain⟨p,w1,a1,a2,a3,a4⟩:=h.own.st (i:=c) (by omega) (slF (ss.getD a nilF))
 obtain⟨p',w2,b1,b2,b3,b4⟩:=a3.st (i:=a) (by omega) (slF (ss.getD c nilF))
 obtain rfl:p'=p:=Option.some.inj (b1.symm.trans a1)
 have ec:((ss.map slF).set c (slF (ss.getD a nilF))).set a (slF (ss.getD c nilF))=((ss.set c (ss.getD a nilF)).set a (ss.getD c nilF)).map slF:=by
  rw[List.map_set,List.map_set]
 rw[ec]at b3
 have u2:=a4.trans' b4 fun _ _ e=>e
 have hget:∀ i,((ss.set c (ss.getD a nilF)).set a (ss.getD c nilF)).getD i nilF=if i=a then ss.getD c nilF else if i=c then ss.getD a nilF else ss.getD i nilF:=fun i=>by
  rw[K_7z _ _ (by rw[List.length_set];omega)]
  by_cases e:i=a
  ·rw[if_pos e,if_pos e]
  ·rw[if_neg e,if_neg e,K_7z _ _ (by omega)]
 have hRget:=Gf.swap_get hc ha
 have hRl:=Gf.swap_length R c a
 have key:∀ i,i<R.length→∃ j,j<R.length∧((ss.set c (ss.getD a nilF)).set a (ss.getD c nilF)).getD i nilF=ss.getD j nilF∧(Gf.swapR R c a).getD i []=R.getD j []∧j=(if i=a then c else if i=c then a else i):=fun i hi=>by
  rw[hget,hRget]
  by_cases e:i=a
  ·exact⟨c,hc,by rw[if_pos e],by rw[if_pos e],by rw[if_pos e]⟩
  ·by_cases e2:i=c
   ·exact⟨a,ha,by rw[if_neg e,if_pos e2],by rw[if_neg e,if_pos e2],by rw[if_neg e,if_pos e2]⟩
   ·exact⟨i,hi,by rw[if_neg e,if_neg e2],by rw[if_neg e,if_neg e2],by rw[if_neg e,if_neg e2]⟩
 refine⟨p',w1,w2,(ss.set c (ss.getD a nilF)).set a (ss.getD c nilF),a1,a2,b2,⟨b3,by rw[hRl,List.length_set,List.length_set];exact hsl,fun i hi=>?_,fun i hi=>?_,fun i j hi hj hij=>?_,fun i hi=>?_,h.low.1,fun i hi=>?_⟩,u2.mono fun k _ e=>h.low.1 k e⟩
 ·rw[hRl]at hi
  obtain⟨j,j1,j2,j3,j4⟩:=key i hi
  rw[j2,j3]
  exact(h.row j j1).upd u2 fun k hk e=>h.off j j1 k e hk
 ·rw[hRl]at hi
  obtain⟨j,j1,j2,j3,j4⟩:=key i hi
  rw[j3];exact h.rlen j j1
 ·rw[hRl]at hi hj
  obtain⟨x,x1,x2,x3,x4⟩:=key i hi
  obtain⟨y,y1,y2,y3,y4⟩:=key j hj
  rw[x2,y2]
  refine h.apart x y x1 y1 fun e=>?_
  rw[x4,y4]at e
  split at e
  ·split at e
   ·omega
   ·split at e <;> omega
  ·split at e
   ·split at e
    ·omega
    ·split at e <;> omega
   ·split at e
    ·omega
    ·split at e <;> omega
 ·rw[hRl]at hi
  obtain⟨j,j1,j2,j3,j4⟩:=key i hi
  rw[j2];exact h.off j j1
 ·rw[hRl]at hi
  obtain⟨j,j1,j2,j3,j4⟩:=key i hi
  rw[j2];exact h.low.2 j j1
theorem RowsAt.push{w:World}{rs:Sl}{ss:List Sl}{R:List (List F)}{m B N:Nat}(h:RowsAt w rs ss R m B N)(hR:R.length≤4096){s:Sl}{r:List F}(ho:OwnS 5 w s (fb r))(hr:r.length=m)(hs:∀ k,s.blk=some k→N≤k)(hN:N≤w.heap.size)(hBN:B≤N):
  ∃ w1 rs' w2,bldS prog 67 1 #[(0,slF s)] w=some (⟨some ⟨w.heap.size,0,none⟩,1,1⟩,w1)∧apd prog 67 67 (.slice rs.a rs.len rs.cap) (.slice (some ⟨w.heap.size,0,none⟩) 1 1) w1=some (rs',w2)∧RowsAt w2 rs' (ss ++ [s]) (R ++ [r]) m B w2.heap.size∧Upd (fun k=>B≤k∧k<N) w w2:=by
 obtain⟨w1,a1,a2,a3,a4⟩:=K_8u sliceR (slF s) rfl w
 have hrl:=h.size
 have hsl:=h.len
 obtain⟨rs',w2,b1,b2,b3,b4,b5⟩:=K_1e sliceR (h.own.upd0 a3) (a2.src (fun v hv=>by simp only[List.mem_singleton]at hv;rw[hv];rfl)) (by show (rs.len+1)*24≤_;omega)
 have q1:=a3.size
 have q2:=b4.size
 have u2:Upd (fun k=>rs.blk=some k) w w2:=(a3.mono (T:=fun k=>rs.blk=some k) fun _ _ e=>e.elim).trans' b4 fun _ _ e=>e
 have hrs':∀ k,rs'.blk=some k→rs.blk=some k∨(w.heap.size<k∧k<w2.heap.size):=fun k hk=>by
  rcases b5 with e | e
  ·rw[e]at hk;exact .inl hk
  ·have:=b3.lt hk
   rw[e]at hk;have e2:w1.heap.size=k:=Option.some.inj hk;exact .inr (by omega)
 have hsw:∀ k,s.blk=some k→k<w.heap.size:=fun k hk=>ho.lt hk
 have hg:∀ i,i<R.length→(ss ++ [s]).getD i nilF=ss.getD i nilF:=fun i hi=>by
  rw[J_gd,List.getElem?_append_left (by omega),←J_gd]
 have hgR:∀ i,i<R.length→(R ++ [r]).getD i []=R.getD i []:=fun i hi=>by
  rw[J_gd,List.getElem?_append_left hi,←J_gd]
 have hge:(ss ++ [s]).getD R.length nilF=s:=by
  rw[J_gd,List.getElem?_append_right (by omega),hsl,Nat.sub_self];rfl
 have hgeR:(R ++ [r]).getD R.length []=r:=by
  rw[J_gd,List.getElem?_append_right (by omega),Nat.sub_self];rfl
 have cases_i:∀ i,i<(R ++ [r]).length→i<R.length∨i=R.length:=fun i hi=>by rw[List.length_append]at hi;simp at hi;omega
 have hbm:(ss.map slF ++ [slF s])=(ss ++ [s]).map slF:=by simp
 have b3:OwnS 23 w2 rs' ((ss ++ [s]).map slF):=by rw[←hbm];exact b3
 refine⟨w1,rs',w2,a1,b1,⟨b3,by simp[hsl],fun i hi=>?_,fun i hi=>?_,fun i j hi hj hij k hk=>?_,fun i hi k hk=>?_,fun k hk=>?_,fun i hi k hk=>?_⟩,u2.mono fun k _ e=>h.low.1 k e⟩
 ·rcases cases_i i hi with h1 | rfl
  ·rw[hg i h1,hgR i h1]
   exact(h.row i h1).upd u2 fun k hk e=>h.off i h1 k e hk
  ·rw[hge,hgeR]
   exact ho.upd u2 fun k hk e=>by have:=hs k hk;have:=h.low.1 k e;omega
 ·rcases cases_i i hi with h1 | rfl
  ·rw[hgR i h1];exact h.rlen i h1
  ·rw[hgeR];exact hr
 ·rcases cases_i i hi with h1 | rfl
  ·rw[hg i h1]at hk
   rcases cases_i j hj with h2 | rfl
   ·rw[hg j h2];exact h.apart i j h1 h2 hij k hk
   ·rw[hge]
    intro e
    have:=hs k e
    have:=h.low.2 i h1 k hk
    omega
  ·rw[hge]at hk
   rcases cases_i j hj with h2 | rfl
   ·rw[hg j h2]
    intro e
    have:=hs k hk
    have:=h.low.2 j h2 k e
    omega
   ·exact absurd rfl hij
 ·rcases cases_i i hi with h1 | rfl
  ·rw[hg i h1]
   intro e
   have h3:=h.low.2 i h1 k e
   rcases hrs' k hk with e2 | e2
   ·exact h.off i h1 k e2 e
   ·omega
  ·rw[hge]
   intro e
   have h3:=hs k e
   have:=hsw k e
   rcases hrs' k hk with e2 | e2
   ·have:=h.low.1 k e2;omega
   ·omega
 ·rcases hrs' k hk with e | e
  ·have:=h.low.1 k e;omega
  ·omega
 ·rcases cases_i i hi with h1 | rfl
  ·rw[hg i h1]at hk
   have:=h.low.2 i h1 k hk;omega
  ·rw[hge]at hk
   have:=hs k hk
   have:=hsw k hk
   omega
theorem RowsAt.nil(w:World)(m B:Nat):RowsAt w nilF [] [] m B B:=
 ⟨OwnS.nil _ _,rfl,fun i hi=>by simp at hi,fun i hi=>by simp at hi,fun i j hi=>by simp at hi,fun i hi=>by simp at hi,fun k hk=>(by cases hk),fun i hi=>by simp at hi⟩
theorem RowsAt.wide{w:World}{rs:Sl}{ss:List Sl}{R:List (List F)}{m B N N':Nat}(h:RowsAt w rs ss R m B N)(hN:N≤N'):RowsAt w rs ss R m B N':=
 ⟨h.own,h.len,h.row,h.rlen,h.apart,h.off,fun k hk=>by have:=h.low.1 k hk;omega,fun i hi k hk=>by have:=h.low.2 i hi k hk;omega⟩
structure RowsIn(w:World) (rs:Sl) (ss:List Sl) (R:List (List F)) (m:Nat):Prop where
 own:Fw.Src w rs (ss.map slF)
 len:ss.length=R.length
 row:∀ i,i<R.length→BSrc w (ss.getD i nilF) (R.getD i [])
 rlen:∀ i,i<R.length→(R.getD i []).length=m
theorem RowsAt.into{w:World}{rs:Sl}{ss:List Sl}{R:List (List F)}{m B N:Nat}(h:RowsAt w rs ss R m B N):RowsIn w rs ss R m:=
 ⟨h.own.src (K_16a ss),h.len,fun i hi=>(h.row i hi).src (K_k _),h.rlen⟩
theorem K_13m{X:Nat→Prop}{w w':World}{s:Sl}{vs:List Value}(h:Fw.Src w s vs)(u:Upd X w w')(hn:∀ q,s.a=some q→vs≠[]→¬X q.block):Fw.Src w' s vs:=
 ⟨h.len,h.cap,h.rd.imp id fun⟨p,hp,hr⟩=>⟨p,hp,hr.upd u fun hne=>hn p hp hne⟩,h.one⟩
theorem RowsIn.upd{w w':World}{rs:Sl}{ss:List Sl}{R:List (List F)}{m:Nat}{X:Nat→Prop}(h:RowsIn w rs ss R m)(u:Upd X w w')(h1:∀ k,X k→¬k<w.heap.size):RowsIn w' rs ss R m:=
 ⟨h.own.upd0 (u.mono fun k hk e=>h1 k e hk),h.len,fun i hi=>(h.row i hi).upd0 (u.mono fun k hk e=>h1 k e hk),h.rlen⟩
theorem RowsIn.upd0{w w':World}{rs:Sl}{ss:List Sl}{R:List (List F)}{m:Nat}(h:RowsIn w rs ss R m)(u:Upd none_ w w'):RowsIn w' rs ss R m:=h.upd u fun _ e=>e.elim
theorem RowsIn.ld{w:World}{rs:Sl}{ss:List Sl}{R:List (List F)}{m:Nat}(h:RowsIn w rs ss R m){i:Nat}(hi:i<R.length):∃ p,rs.a=some p∧ldS (p.add i) w=some (ss.getD i nilF):=by
 have hl:=h.len
 rcases h.own.rd with ⟨_,_,e⟩ | ⟨p,e1,e2⟩
 ·have:=congrArg List.length e
  rw[List.length_map]at this
  simp at this;rw[this]at hl;simp at hl;omega
 ·refine⟨p,e1,?_⟩
  have hv:(ss.map slF)[i]? =some (slF (ss.getD i nilF)):=by
   rw[List.getElem?_map,J_ge (by omega),J_gd,J_ge (by omega)];rfl
  have:=e2 i _ hv
  unfold ldS
  rw[this];rfl
theorem RowsIn.size{w:World}{rs:Sl}{ss:List Sl}{R:List (List F)}{m:Nat}(h:RowsIn w rs ss R m):rs.len=R.length:=by rw[h.own.len,List.length_map,h.len]
end Go.Sh

namespace Go.Sh
open Go.Fw Go.Gf Go.RowKit Go.Proofs.Tryd
theorem K_1ev{K:Nat}(hK:18446744073709551616≤K){m0:Sl}{n4:Int}{ms:List Sl}{R:List (List F)}{m B:Nat}(hR:R.length≤4096)(hm:m≤4096):
  ∀ (d i f:Nat) (w:World) (rs:Sl) (ss:List Sl),i+d=R.length→d<f→RowsAt w rs ss (R.take i) m B w.heap.size→B≤w.heap.size→RowsIn w m0 ms R m→(∀ k,B≤k→¬m0.blk=some k)→(∀ i,i<R.length→∀ k,B≤k→¬(ms.getD i nilF).blk=some k)→
   ∃ rs' ss' w',K_4y K f m0 n4 rs (i:Int) w=some ((rs',()),w')∧RowsAt w' rs' ss' R m B w'.heap.size∧Upd (fun k=>B≤k) w w':=by
 intro d
 induction d with
 | zero=>
  intro i f w rs ss hi hf h hB hm0 h1 h2
  obtain⟨f,rfl⟩:∃ q,f=q+1:=⟨f - 1,by omega⟩
  refine⟨rs,ss,w,?_,by rw[List.take_of_length_le (by omega)]at h;exact h,Upd.refl _ _⟩
  show K_8o K (K_4y K f) m0 n4 rs (i:Int) w=_
  unfold K_8o
  rw[if_neg (by rw[hm0.size];simp only[decide_eq_true_eq];omega)]
 | succ d ih=>
  intro i f w rs ss hi hf h hB hm0 h1 h2
  obtain⟨f,rfl⟩:∃ q,f=q+1:=⟨f - 1,by omega⟩
  have hil:i<R.length:=by omega
  have hms:=hm0.size
  have e3:IntKind.i64.wrap ((i:Int)+1)=((i+1:Nat):Int):=by rw[w64 (by omega) (by omega)];rfl
  obtain⟨w1,a1,a2,a3⟩:=K_n1 sliceB w
  obtain⟨p,p1,p2⟩:=(hm0.upd0 a3).ld hil
  have c1:(0:Int)≤(i:Int)∧(i:Int)<((m0.len:Nat):Int):=by omega
  have hrow:=hm0.row i hil
  have hrl:=hm0.rlen i hil
  have hsl:(ms.getD i nilF).len=m:=by rw[hrow.len,K_1,hrl]
  obtain⟨s2,w2,b1,b2,b3,b4,b5⟩:=K_1e sliceB a2 (hrow.upd0 a3) (by show (0+(ms.getD i nilF).len)*1≤_;omega)
  have q1:=a3.size
  have q2:=b4.size
  have u2:Upd none_ w w2:=a3.trans' b4 fun j hj e=>by have e2:w.heap.size=j:=Option.some.inj e;omega
  have hs2:∀ k,s2.blk=some k→w.heap.size≤k:=fun k hk=>by
   rcases b5 with e | e
   ·rw[e]at hk;have e2:w.heap.size=k:=Option.some.inj hk;omega
   ·rw[e]at hk;have e2:w1.heap.size=k:=Option.some.inj hk;omega
  have b3:OwnS 5 w2 s2 (fb (R.getD i [])):=b3
  obtain⟨w3,rs',w4,c2,c3,c4,c5⟩:=(h.upd0 u2).push (by rw[List.length_take];omega) b3 hrl hs2 (by omega) hB
  have q4:=c5.size
  have etk:R.take i ++ [R.getD i []]=R.take (i+1):=by
   rw[List.take_succ_eq_append_getElem hil,J_gd,J_ge hil];rfl
  rw[etk]at c4
  have u4:Upd (fun k=>B≤k) w w4:=(u2.mono (T:=fun k=>B≤k) fun _ _ e=>e.elim).trans' c5 fun k _ e=>e.1
  have hm4:RowsIn w4 m0 ms R m:=⟨K_13m hm0.own u4 fun q hq _ e=>h1 q.block e (by simp[Sl.blk,hq]),hm0.len,fun j hj=>K_13m (hm0.row j hj) u4 fun q hq _ e=>h2 j hj q.block e (by unfold Sl.blk;rw[hq];rfl),hm0.rlen⟩
  obtain⟨rs'',ss'',w5,d1,d2,d3⟩:=ih (i+1) f w4 rs' _ (by omega) (by omega) c4 (by omega) hm4 h1 h2
  refine⟨rs'',ss'',w5,?_,d2,u4.trans' d3 fun _ _ e=>e⟩
  show K_8o K (K_4y K f) m0 n4 rs (i:Int) w=_
  unfold K_8o
  rw[if_pos (decide_eq_true (show (i:Int)<((m0.len:Nat):Int) by omega)),a1,bnd_ok,p1,J_bs,if_pos c1,J_tn,Nat.mul_one,p2,J_bs]
  dsimp only
  rw[b1,bnd_ok,c2,bnd_ok]
  dsimp only
  rw[c3,bnd_ok,e3,d1]
theorem K_1cf{K:Nat}{rs x7:Sl}{ss:List Sl}{n4:Int}{R:List (List F)}{m B N c:Nat}{w:World}(h:RowsAt w rs ss R m B N)(hc:c<m)(hR:R.length≤4096):
  ∀ (d i f:Nat),i+d=R.length→d+2<f→K_1w K f n4 rs x7 (c:Int) (-1) (i:Int) w=some ((atI (Gf.pivotG R c d i),()),w):=by
 intro d
 have hsz:=h.size
 induction d with
 | zero=>
  intro i f hi hf
  obtain⟨f,rfl⟩:∃ q,f=q+1:=⟨f - 1,by omega⟩
  show K_29 K (K_1w K f) n4 rs x7 (c:Int) (-1) (i:Int) w=_
  unfold K_29 K_49
  rw[if_neg (by rw[hsz];simp only[decide_eq_true_eq];omega),bnd_ok,if_neg (by decide)]
  rfl
 | succ d ih=>
  intro i f hi hf
  obtain⟨f,rfl⟩:∃ q,f=q+1:=⟨f - 1,by omega⟩
  have hil:i<R.length:=by omega
  have e3:IntKind.i64.wrap ((i:Int)+1)=((i+1:Nat):Int):=by rw[w64 (by omega) (by omega)];rfl
  obtain⟨p,p1,p2⟩:=h.ld hil
  obtain⟨q,q1,q2⟩:=h.cell hil hc
  have hsl:=h.slen hil
  have c1:(0:Int)≤(i:Int)∧(i:Int)<((rs.len:Nat):Int):=by omega
  have c2:(0:Int)≤(c:Int)∧(c:Int)<(((ss.getD i nilF).len:Nat):Int):=by omega
  show K_29 K (K_1w K f) n4 rs x7 (c:Int) (-1) (i:Int) w=_
  unfold K_29 K_49
  rw[if_pos (decide_eq_true (show (i:Int)<((rs.len:Nat):Int) by omega)),bnd_ok,if_pos (by decide),p1,J_bs,if_pos c1,J_tn,Nat.mul_one,p2,J_bs,q1,J_bs,if_pos c2,J_tn,Nat.mul_one,q2,J_bs,e3]
  by_cases hz:Gf.E R i c=0
  ·have hp:Gf.pivotG R c (d+1) i=Gf.pivotG R c d (i+1):=by
    show (if Gf.E R i c≠0 then some i else Gf.pivotG R c d (i+1))=_
    rw[if_neg (fun e=>e hz)]
   rw[if_neg (by rw[K_xt];exact fun e=>e hz),hp]
   exact ih (i+1) f (by omega) (by omega)
  ·have hp:Gf.pivotG R c (d+1) i=some i:=by
    show (if Gf.E R i c≠0 then some i else Gf.pivotG R c d (i+1))=_
    rw[if_pos hz]
   rw[if_pos (by rw[K_xt];exact hz),hp]
   obtain⟨f,rfl⟩:∃ q,f=q+1:=⟨f - 1,by omega⟩
   show K_29 K (K_1w K f) n4 rs x7 (c:Int) (i:Int) ((i+1:Nat):Int) w=_
   have hs3:K_49 K rs (i:Int) ((i+1:Nat):Int) w=some ((false,()),w):=by
    unfold K_49
    split
    ·rw[decide_eq_false (show ¬(i:Int)<0 by omega)]
    ·rfl
   unfold K_29
   rw[hs3,bnd_ok,if_neg (by decide)]
   rfl
def pnorm(k:Nat)(r:List F)(by_:F):List F:=(r.take k).map (· *by_) ++ r.drop k
theorem K_1fj{k:Nat}{r:List F}{by_:F}:(pnorm k r by_).getD k 0=r.getD k 0:=by
 unfold pnorm
 rw[J_gd,J_gd]
 by_cases h:k≤r.length
 ·rw[List.getElem?_append_right (by simp;omega),List.length_map,List.length_take,Nat.min_eq_left h,Nat.sub_self,List.getElem?_drop,Nat.add_zero]
 ·rw[List.getElem?_eq_none (by simp;omega),List.getElem?_eq_none (by omega)]
theorem K_1h4{k:Nat}{r:List F}{by_:F}(h:k<r.length):(pnorm k r by_).set k (r.getD k 0*by_)=pnorm (k+1) r by_:=by
 unfold pnorm
 rw[List.set_append_right _ _ (by simp;omega),List.length_map,List.length_take,Nat.min_eq_left (by omega),Nat.sub_self,List.drop_eq_getElem_cons h,List.set_cons_zero,List.take_succ_eq_append_getElem h,List.map_append]
 have:r.getD k 0=r[k]:=by rw[J_gd,J_ge h];rfl
 rw[this];simp
theorem K_ze{R:List (List F)}{c:Nat}(v:List F)(hc:c<R.length):(R.set c v).getD c []=v:=by rw[K_7z _ _ hc,if_pos rfl]
theorem K_1ek{K:Nat}(hK:300≤K){rs x7:Sl}{ss:List Sl}{n B N c:Nat}{R:List (List F)}{by_:F}(hc:c<R.length)(hcm:(R.getD c []).length=n+1)(hn:n≤4096)(hR:R.length≤4096):
  ∀ (d k f:Nat) (w:World),k+d=n+1→d<f→RowsAt w rs ss (R.set c (pnorm k (R.getD c []) by_)) (n+1) B N→
   ∃ w',K_37 K f (n:Int) rs x7 (c:Int) (bF by_) (k:Int) w=some ((),w')∧RowsAt w' rs ss (R.set c ((R.getD c []).map (· *by_))) (n+1) B N∧Upd (fun k=>B≤k∧k<N) w w':=by
 intro d
 induction d with
 | zero=>
  intro k f w hk hf h
  obtain⟨f,rfl⟩:∃ q,f=q+1:=⟨f - 1,by omega⟩
  refine⟨w,?_,?_,Upd.refl _ _⟩
  ·show K_8n K (K_37 K f) (n:Int) rs x7 (c:Int) (bF by_) (k:Int) w=_
   unfold K_8n
   rw[if_neg (by simp only[decide_eq_true_eq];omega)]
  ·have:pnorm k (R.getD c []) by_=(R.getD c []).map (· *by_):=by
    unfold pnorm
    rw[List.take_of_length_le (by omega),List.drop_eq_nil_of_le (by omega),List.append_nil]
   rw[this]at h;exact h
 | succ d ih=>
  intro k f w hk hf h
  obtain⟨f,rfl⟩:∃ q,f=q+1:=⟨f - 1,by omega⟩
  have hcs:c<(R.set c (pnorm k (R.getD c []) by_)).length:=by rw[List.length_set];exact hc
  have hsz:=h.size
  rw[List.length_set]at hsz
  have e3:IntKind.i64.wrap ((k:Int)+1)=((k+1:Nat):Int):=by rw[w64 (by omega) (by omega)];rfl
  obtain⟨p,p1,p2⟩:=h.drew.ld hcs
  obtain⟨q,q1,q2⟩:=h.drew.cell hcs (t:=k) (by omega)
  have hE:Gf.E (R.set c (pnorm k (R.getD c []) by_)) c k=(R.getD c []).getD k 0:=by
   unfold Gf.E
   rw[K_ze _ hc,K_1fj]
  rw[hE]at q2
  have hsl:=h.slen hcs
  obtain⟨q',w1,s1,s2,s3,s4⟩:=h.drew.put hcs (t:=k) (by omega) ((R.getD c []).getD k 0*by_)
  obtain rfl:q'=q:=Option.some.inj (s1.symm.trans q1)
  rw[K_ze _ hc,K_1h4 (by omega),List.set_set]at s3
  have c1:(0:Int)≤(c:Int)∧(c:Int)<((rs.len:Nat):Int):=by omega
  have c2:(0:Int)≤(k:Int)∧(k:Int)<(((ss.getD c nilF).len:Nat):Int):=by omega
  obtain⟨w2,k1,k2,k3⟩:=ih (k+1) f w1 (by omega) (by omega) s3
  refine⟨w2,?_,k2,s4.predrew.trans' k3 fun _ _ e=>e⟩
  show K_8n K (K_37 K f) (n:Int) rs x7 (c:Int) (bF by_) (k:Int) w=_
  unfold K_8n
  rw[if_pos (decide_eq_true (show (k:Int)≤(n:Int) by omega)),p1,J_bs,if_pos c1,J_bs,if_pos c1,J_tn,Nat.mul_one,p2,J_bs,J_bs,q1,J_bs,if_pos c2,J_tn,Nat.mul_one,q2,J_bs,rtimes hK,J_bs,J_bs,if_pos c2]
  dsimp only
  rw[s2,J_bs,e3,k1]
def pless(k:Nat)(r q:List F)(f:F):List F:=xorR (r.take k) ((q.take k).map (f* ·)) ++ r.drop k
theorem K_1hf:∀ {l m:List F} (k:Nat),l.length=m.length→(xorR l m).getD k 0=l.getD k 0+m.getD k 0:=fun k h=>Gf.getD_xorR k h
theorem K_118:∀ {a b c d:List F},a.length=c.length→xorR (a ++ b) (c ++ d)=xorR a c ++ xorR b d
 | [],b,[],d,_=>rfl
 | x :: a,b,y :: c,d,h=>by
  show (x+y) :: xorR (a ++ b) (c ++ d)=(x+y) :: (xorR a c ++ xorR b d)
  rw[K_118 (by simpa using h)]
 | [],_,_ :: _,_,h=>by simp at h
 | _ :: _,_,[],_,h=>by simp at h
theorem K_17z{k:Nat}{r q:List F}{f:F}(h:r.length=q.length)(hk:k<r.length):(pless k r q f).getD k 0=r.getD k 0:=by
 unfold pless
 have hl:(xorR (r.take k) ((q.take k).map (f* ·))).length=k:=by rw[Gf.xorR_length (by simp;omega)];simp;omega
 rw[J_gd,J_gd,List.getElem?_append_right (by omega),hl,Nat.sub_self,List.getElem?_drop,Nat.add_zero]
theorem K_17l{k:Nat}{r q:List F}{f:F}(h:r.length=q.length)(hk:k<r.length):(pless k r q f).set k (r.getD k 0+f*q.getD k 0)=pless (k+1) r q f:=by
 unfold pless
 have hl:(xorR (r.take k) ((q.take k).map (f* ·))).length=k:=by rw[Gf.xorR_length (by simp;omega)];simp;omega
 have h1:r.getD k 0=r[k]:=by rw[J_gd,J_ge hk];rfl
 have h2:q.getD k 0=q[k]'(by omega):=by rw[J_gd,J_ge (by omega)];rfl
 rw[List.set_append_right _ _ (by omega),hl,Nat.sub_self,List.drop_eq_getElem_cons hk,List.set_cons_zero,List.take_succ_eq_append_getElem hk,List.take_succ_eq_append_getElem (show k<q.length by omega),List.map_append,K_118 (by simp;omega),h1,h2]
 simp[xorR]
theorem K_1dv{K:Nat}(hK:300≤K){rs x7:Sl}{ss:List Sl}{n B N c i:Nat}{R:List (List F)}{fac:F}(hc:c<R.length)(hi:i<R.length)(hic:i≠c)(hcm:(R.getD c []).length=n+1)(him:(R.getD i []).length=n+1)(hn:n≤4096)(hR:R.length≤4096):
  ∀ (d k f:Nat) (w:World),k+d=n+1→d<f→RowsAt w rs ss (R.set i (pless k (R.getD i []) (R.getD c []) fac)) (n+1) B N→
   ∃ w',K_4v K f (n:Int) rs x7 (c:Int) (i:Int) (bF fac) (k:Int) w=some ((),w')∧RowsAt w' rs ss (R.set i (xorR (R.getD i []) ((R.getD c []).map (fac* ·)))) (n+1) B N∧Upd (fun k=>B≤k∧k<N) w w':=by
 intro d
 induction d with
 | zero=>
  intro k f w hk hf h
  obtain⟨f,rfl⟩:∃ q,f=q+1:=⟨f - 1,by omega⟩
  refine⟨w,?_,?_,Upd.refl _ _⟩
  ·show K_8g K (K_4v K f) (n:Int) rs x7 (c:Int) (i:Int) (bF fac) (k:Int) w=_
   unfold K_8g
   rw[if_neg (by simp only[decide_eq_true_eq];omega)]
  ·have:pless k (R.getD i []) (R.getD c []) fac=xorR (R.getD i []) ((R.getD c []).map (fac* ·)):=by
    unfold pless
    rw[List.take_of_length_le (by omega),List.take_of_length_le (by omega),List.drop_eq_nil_of_le (by omega),List.append_nil]
   rw[this]at h;exact h
 | succ d ih=>
  intro k f w hk hf h
  obtain⟨f,rfl⟩:∃ q,f=q+1:=⟨f - 1,by omega⟩
  have his:i<(R.set i (pless k (R.getD i []) (R.getD c []) fac)).length:=by rw[List.length_set];exact hi
  have hcs:c<(R.set i (pless k (R.getD i []) (R.getD c []) fac)).length:=by rw[List.length_set];exact hc
  have hsz:=h.size
  rw[List.length_set]at hsz
  have e3:IntKind.i64.wrap ((k:Int)+1)=((k+1:Nat):Int):=by rw[w64 (by omega) (by omega)];rfl
  obtain⟨p,p1,p2⟩:=h.drew.ld his
  obtain⟨p',p1',p3⟩:=h.drew.ld hcs
  obtain rfl:p'=p:=Option.some.inj (p1'.symm.trans p1)
  obtain⟨q,q1,q2⟩:=h.drew.cell his (t:=k) (by omega)
  obtain⟨z,z1,z2⟩:=h.drew.cell hcs (t:=k) (by omega)
  have hE:Gf.E (R.set i (pless k (R.getD i []) (R.getD c []) fac)) i k=(R.getD i []).getD k 0:=by
   unfold Gf.E
   rw[K_ze _ hi,K_17z (by omega) (by omega)]
  have hEc:Gf.E (R.set i (pless k (R.getD i []) (R.getD c []) fac)) c k=(R.getD c []).getD k 0:=by
   unfold Gf.E
   rw[K_7z _ _ hi,if_neg (fun e=>hic e.symm)]
  rw[hE]at q2
  rw[hEc]at z2
  have hsl:=h.slen his
  have hslc:=h.slen hcs
  obtain⟨q',w1,s1,s2,s3,s4⟩:=h.drew.put his (t:=k) (by omega) ((R.getD i []).getD k 0+fac*(R.getD c []).getD k 0)
  obtain rfl:q'=q:=Option.some.inj (s1.symm.trans q1)
  rw[K_ze _ hi,K_17l (by omega) (by omega),List.set_set]at s3
  have c1:(0:Int)≤(i:Int)∧(i:Int)<((rs.len:Nat):Int):=by omega
  have c1c:(0:Int)≤(c:Int)∧(c:Int)<((rs.len:Nat):Int):=by omega
  have c2:(0:Int)≤(k:Int)∧(k:Int)<(((ss.getD i nilF).len:Nat):Int):=by omega
  have c3:(0:Int)≤(k:Int)∧(k:Int)<(((ss.getD c nilF).len:Nat):Int):=by omega
  obtain⟨w2,k1,k2,k3⟩:=ih (k+1) f w1 (by omega) (by omega) s3
  refine⟨w2,?_,k2,s4.predrew.trans' k3 fun _ _ e=>e⟩
  show K_8g K (K_4v K f) (n:Int) rs x7 (c:Int) (i:Int) (bF fac) (k:Int) w=_
  unfold K_8g
  rw[if_pos (decide_eq_true (show (k:Int)≤(n:Int) by omega)),p1,J_bs,if_pos c1,J_bs,if_pos c1,J_bs,if_pos c1c,J_tn,Nat.mul_one,p2,J_bs,J_bs,q1,J_bs,if_pos c2,J_tn,Nat.mul_one,q2,J_bs,J_tn,Nat.mul_one,p3,J_bs,z1,J_bs,if_pos c3,z2,J_bs,rtimes hK,J_bs,J_bs,if_pos c2]
  dsimp only
  rw[addF,s2,J_bs,e3,k1]
end Go.Sh
